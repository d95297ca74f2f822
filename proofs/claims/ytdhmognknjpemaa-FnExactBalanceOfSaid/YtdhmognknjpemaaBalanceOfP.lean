import Derived.Test.YtdhmognknjpemaaB
set_option linter.unusedVariables false
set_option linter.unusedSimpArgs false
set_option maxRecDepth 100000
set_option maxHeartbeats 4000000
namespace Go.Rf
open Go
noncomputable def zft {R : Type} (x : Nat) (k_ : Bool → Option R) : Option R := (k_ (fcmp BinOp.eql FloatKind.f32 (fop BinOp.sub FloatKind.f32 x x) 0))
noncomputable def zfc (x : Nat) : Option (Bool) := zft x (fun c0_ => some c0_)
theorem zpp {R R' : Type} (o : Option R → Option R') (h0 : o none = none) (x : Nat) (k_ : Bool → Option R) : zft x (fun c0_ => o (k_ c0_)) = o (zft x k_) := by
  unfold zft
  repeat (first | refine grd_out h0 ?_ | refine br_out ?_ ?_ | rfl | exact h0.symm)
noncomputable def z6z (x : Nat) : Bool := (zfc x).isSome
noncomputable def z6j (x : Nat) : Bool := ((zfc x).getD default)
theorem z8l {x : Nat} {r : Bool} (h : zfc x = some r) : z6z x = true ∧ z6j x = r := by
  unfold z6z z6j
  rw [h]
  exact ⟨rfl, rfl⟩
noncomputable def zce {R : Type} (a : Nat) (b : Nat) (k_ : Bool → Option R) : Option R := (br (fcmp BinOp.neq FloatKind.f64 a a) (br (fcmp BinOp.neq FloatKind.f64 a a) (k_ (fcmp BinOp.neq FloatKind.f64 b b)) (k_ Bool.false)) (br (fcmp BinOp.neq FloatKind.f64 b b) (br (fcmp BinOp.neq FloatKind.f64 a a) (k_ (fcmp BinOp.neq FloatKind.f64 b b)) (k_ Bool.false)) (br (fcmp BinOp.eql FloatKind.f64 a 0) (br (fcmp BinOp.eql FloatKind.f64 b 0) (k_ (beqB (fcmp BinOp.gtr FloatKind.f64 (fop BinOp.quo FloatKind.f64 4607182418800017408 a) 0) (fcmp BinOp.gtr FloatKind.f64 (fop BinOp.quo FloatKind.f64 4607182418800017408 b) 0))) (k_ (fcmp BinOp.eql FloatKind.f64 a b))) (k_ (fcmp BinOp.eql FloatKind.f64 a b)))))
noncomputable def zbs (a : Nat) (b : Nat) : Option (Bool) := zce a b (fun c0_ => some c0_)
theorem zow {R R' : Type} (o : Option R → Option R') (h0 : o none = none) (a : Nat) (b : Nat) (k_ : Bool → Option R) : zce a b (fun c0_ => o (k_ c0_)) = o (zce a b k_) := by
  unfold zce
  repeat (first | refine grd_out h0 ?_ | refine br_out ?_ ?_ | rfl | exact h0.symm)
noncomputable def z88 (a : Nat) (b : Nat) : Bool := (zbs a b).isSome
noncomputable def z7t (a : Nat) (b : Nat) : Bool := ((zbs a b).getD default)
theorem z9n {a : Nat} {b : Nat} {r : Bool} (h : zbs a b = some r) : z88 a b = true ∧ z7t a b = r := by
  unfold z88 z7t
  rw [h]
  exact ⟨rfl, rfl⟩
noncomputable def z91 {R : Type} (q00 : Nat) (q03 : List Nat) (q02 : Nat) (q05 : List Nat) (q01 : Nat) (q04 : List Nat) (q06 : Nat) (q09 : List Nat) (q0e : Int) (q0h : Nat) (q0g : Nat) (i : Int) (k_ : Nat → Option R) : Option R := (grd (okIx i q06) (grd (okIx i q06) (k_ (fop BinOp.quo FloatKind.f32 (fop BinOp.mul FloatKind.f32 (fOI FloatKind.f32 q0e) (gF q09 (Nat.succ (ixO 0 i 3)))) (fop BinOp.mul FloatKind.f32 1086918619 (gF q09 (ixO 0 i 3)))))))
noncomputable def z94 (q00 : Nat) (q03 : List Nat) (q02 : Nat) (q05 : List Nat) (q01 : Nat) (q04 : List Nat) (q06 : Nat) (q09 : List Nat) (q0e : Int) (q0h : Nat) (q0g : Nat) (i : Int) : Option (Nat) := z91 q00 q03 q02 q05 q01 q04 q06 q09 q0e q0h q0g i (fun c0_ => some c0_)
theorem zli {R R' : Type} (o : Option R → Option R') (h0 : o none = none) (q00 : Nat) (q03 : List Nat) (q02 : Nat) (q05 : List Nat) (q01 : Nat) (q04 : List Nat) (q06 : Nat) (q09 : List Nat) (q0e : Int) (q0h : Nat) (q0g : Nat) (i : Int) (k_ : Nat → Option R) : z91 q00 q03 q02 q05 q01 q04 q06 q09 q0e q0h q0g i (fun c0_ => o (k_ c0_)) = o (z91 q00 q03 q02 q05 q01 q04 q06 q09 q0e q0h q0g i k_) := by
  unfold z91
  repeat (first | refine grd_out h0 ?_ | refine br_out ?_ ?_ | rfl | exact h0.symm)
noncomputable def zct (q00 : Nat) (q03 : List Nat) (q02 : Nat) (q05 : List Nat) (q01 : Nat) (q04 : List Nat) (q06 : Nat) (q09 : List Nat) (q0e : Int) (q0h : Nat) (q0g : Nat) (i : Int) : Bool := (z94 q00 q03 q02 q05 q01 q04 q06 q09 q0e q0h q0g i).isSome
noncomputable def za3 (q00 : Nat) (q03 : List Nat) (q02 : Nat) (q05 : List Nat) (q01 : Nat) (q04 : List Nat) (q06 : Nat) (q09 : List Nat) (q0e : Int) (q0h : Nat) (q0g : Nat) (i : Int) : Nat := ((z94 q00 q03 q02 q05 q01 q04 q06 q09 q0e q0h q0g i).getD default)
theorem zmu {q00 : Nat} {q03 : List Nat} {q02 : Nat} {q05 : List Nat} {q01 : Nat} {q04 : List Nat} {q06 : Nat} {q09 : List Nat} {q0e : Int} {q0h : Nat} {q0g : Nat} {i : Int} {r : Nat} (h : z94 q00 q03 q02 q05 q01 q04 q06 q09 q0e q0h q0g i = some r) : zct q00 q03 q02 q05 q01 q04 q06 q09 q0e q0h q0g i = true ∧ za3 q00 q03 q02 q05 q01 q04 q06 q09 q0e q0h q0g i = r := by
  unfold zct za3
  rw [h]
  exact ⟨rfl, rfl⟩
noncomputable def zf8 {R : Type} (n_ : Int) (low : Int) (q2g : Int) (k_ : Bool → Option R) : Option R := (br (leI low n_) (k_ (leI n_ q2g)) (k_ Bool.false))
noncomputable def zf7 (n_ : Int) (low : Int) (q2g : Int) : Option (Bool) := zf8 n_ low q2g (fun c0_ => some c0_)
theorem zr7 {R R' : Type} (o : Option R → Option R') (h0 : o none = none) (n_ : Int) (low : Int) (q2g : Int) (k_ : Bool → Option R) : zf8 n_ low q2g (fun c0_ => o (k_ c0_)) = o (zf8 n_ low q2g k_) := by
  unfold zf8
  repeat (first | refine grd_out h0 ?_ | refine br_out ?_ ?_ | rfl | exact h0.symm)
noncomputable def zif (n_ : Int) (low : Int) (q2g : Int) : Bool := (zf7 n_ low q2g).isSome
noncomputable def zhe (n_ : Int) (low : Int) (q2g : Int) : Bool := ((zf7 n_ low q2g).getD default)
theorem zny {n_ : Int} {low : Int} {q2g : Int} {r : Bool} (h : zf7 n_ low q2g = some r) : zif n_ low q2g = true ∧ zhe n_ low q2g = r := by
  unfold zif zhe
  rw [h]
  exact ⟨rfl, rfl⟩
noncomputable def zjg {R : Type}  (k_ : Nat → Option R) : Option R := (grd (okU FloatKind.f64 9221120237041090561) (k_ (cnI FloatKind.f64 9221120237041090561)))
noncomputable def zjh  : Option (Nat) := zjg (fun c0_ => some c0_)
theorem ztw {R R' : Type} (o : Option R → Option R') (h0 : o none = none)  (k_ : Nat → Option R) : zjg (fun c0_ => o (k_ c0_)) = o (zjg k_) := by
  unfold zjg
  repeat (first | refine grd_out h0 ?_ | refine br_out ?_ ?_ | rfl | exact h0.symm)
noncomputable def zkc  : Bool := (zjh).isSome
noncomputable def zij  : Nat := ((zjh).getD default)
theorem zru  {r : Nat} (h : zjh = some r) : zkc = true ∧ zij = r := by
  unfold zkc zij
  rw [h]
  exact ⟨rfl, rfl⟩
noncomputable def zay {R : Type} (a_n : Nat) (a : List Nat) (q25 : Int) (k_ : Int → Option R) : Option R := (br (ltI (subI IntKind.i64 q25 (Int.ofNat a_n)) 0) (k_ (Int.negSucc 0)) (k_ (subI IntKind.i64 q25 (Int.ofNat a_n))))
noncomputable def zb4 (a_n : Nat) (a : List Nat) (q25 : Int) : Option (Int) := zay a_n a q25 (fun c0_ => some c0_)
theorem znd {R R' : Type} (o : Option R → Option R') (h0 : o none = none) (a_n : Nat) (a : List Nat) (q25 : Int) (k_ : Int → Option R) : zay a_n a q25 (fun c0_ => o (k_ c0_)) = o (zay a_n a q25 k_) := by
  unfold zay
  repeat (first | refine grd_out h0 ?_ | refine br_out ?_ ?_ | rfl | exact h0.symm)
noncomputable def zgw (a_n : Nat) (a : List Nat) (q25 : Int) : Bool := (zb4 a_n a q25).isSome
noncomputable def zcl (a_n : Nat) (a : List Nat) (q25 : Int) : Int := ((zb4 a_n a q25).getD default)
theorem zqg {a_n : Nat} {a : List Nat} {q25 : Int} {r : Int} (h : zb4 a_n a q25 = some r) : zgw a_n a q25 = true ∧ zcl a_n a q25 = r := by
  unfold zgw zcl
  rw [h]
  exact ⟨rfl, rfl⟩
noncomputable def zdq {R : Type} (x : Nat) (k_ : Bool → Option R) : Option R := (br (fcmp BinOp.geq FloatKind.f32 x 981668463) (k_ (fcmp BinOp.leq FloatKind.f32 x 1048508891)) (k_ Bool.false))
noncomputable def ze3 (x : Nat) : Option (Bool) := zdq x (fun c0_ => some c0_)
theorem zqd {R R' : Type} (o : Option R → Option R') (h0 : o none = none) (x : Nat) (k_ : Bool → Option R) : zdq x (fun c0_ => o (k_ c0_)) = o (zdq x k_) := by
  unfold zdq
  repeat (first | refine grd_out h0 ?_ | refine br_out ?_ ?_ | rfl | exact h0.symm)
noncomputable def zjn (x : Nat) : Bool := (ze3 x).isSome
noncomputable def ziq (x : Nat) : Bool := ((ze3 x).getD default)
theorem zsw {x : Nat} {r : Bool} (h : ze3 x = some r) : zjn x = true ∧ ziq x = r := by
  unfold zjn ziq
  rw [h]
  exact ⟨rfl, rfl⟩
noncomputable def zee {R : Type} (x : Nat) (k_ : Bool → Option R) : Option R := (k_ (fcmp BinOp.eql FloatKind.f32 (fop BinOp.sub FloatKind.f32 x x) 0))
noncomputable def zeb (x : Nat) : Option (Bool) := zee x (fun c0_ => some c0_)
theorem zop {R R' : Type} (o : Option R → Option R') (h0 : o none = none) (x : Nat) (k_ : Bool → Option R) : zee x (fun c0_ => o (k_ c0_)) = o (zee x k_) := by
  unfold zee
  repeat (first | refine grd_out h0 ?_ | refine br_out ?_ ?_ | rfl | exact h0.symm)
noncomputable def z5p (x : Nat) : Bool := (zeb x).isSome
noncomputable def z53 (x : Nat) : Bool := ((zeb x).getD default)
theorem z8a {x : Nat} {r : Bool} (h : zeb x = some r) : z5p x = true ∧ z53 x = r := by
  unfold z5p z53
  rw [h]
  exact ⟨rfl, rfl⟩
noncomputable def zcm {R : Type} (x : Nat) (low : Nat) (q2g : Nat) (k_ : Bool → Option R) : Option R := (br (fcmp BinOp.geq FloatKind.f32 x low) (k_ (fcmp BinOp.leq FloatKind.f32 x q2g)) (k_ Bool.false))
noncomputable def zcs (x : Nat) (low : Nat) (q2g : Nat) : Option (Bool) := zcm x low q2g (fun c0_ => some c0_)
theorem zpl {R R' : Type} (o : Option R → Option R') (h0 : o none = none) (x : Nat) (low : Nat) (q2g : Nat) (k_ : Bool → Option R) : zcm x low q2g (fun c0_ => o (k_ c0_)) = o (zcm x low q2g k_) := by
  unfold zcm
  repeat (first | refine grd_out h0 ?_ | refine br_out ?_ ?_ | rfl | exact h0.symm)
noncomputable def zfj (x : Nat) (low : Nat) (q2g : Nat) : Bool := (zcs x low q2g).isSome
noncomputable def zec (x : Nat) (low : Nat) (q2g : Nat) : Bool := ((zcs x low q2g).getD default)
theorem zm6 {x : Nat} {low : Nat} {q2g : Nat} {r : Bool} (h : zcs x low q2g = some r) : zfj x low q2g = true ∧ zec x low q2g = r := by
  unfold zfj zec
  rw [h]
  exact ⟨rfl, rfl⟩
noncomputable def zj7 {R : Type} (a : Nat) (b : Nat) (q35 : Nat) (k_ : Nat → Option R) : Option R := (k_ (fop BinOp.add FloatKind.f32 a (fop BinOp.mul FloatKind.f32 q35 (fop BinOp.sub FloatKind.f32 b a))))
noncomputable def zjb (a : Nat) (b : Nat) (q35 : Nat) : Option (Nat) := zj7 a b q35 (fun c0_ => some c0_)
theorem zrw {R R' : Type} (o : Option R → Option R') (h0 : o none = none) (a : Nat) (b : Nat) (q35 : Nat) (k_ : Nat → Option R) : zj7 a b q35 (fun c0_ => o (k_ c0_)) = o (zj7 a b q35 k_) := by
  unfold zj7
  repeat (first | refine grd_out h0 ?_ | refine br_out ?_ ?_ | rfl | exact h0.symm)
noncomputable def zj2 (a : Nat) (b : Nat) (q35 : Nat) : Bool := (zjb a b q35).isSome
noncomputable def zig (a : Nat) (b : Nat) (q35 : Nat) : Nat := ((zjb a b q35).getD default)
theorem zu0 {a : Nat} {b : Nat} {q35 : Nat} {r : Nat} (h : zjb a b q35 = some r) : zj2 a b q35 = true ∧ zig a b q35 = r := by
  unfold zj2 zig
  rw [h]
  exact ⟨rfl, rfl⟩
noncomputable def zjj {R : Type} (x : Nat) (k_ : Nat → Option R) : Option R := (grd (bnot (nanQ FloatKind.f64 x)) (grd (okU FloatKind.f64 (bitI BinOp.andNot IntKind.u64 (Int.ofNat x) 9223372036854775808)) (k_ (cnI FloatKind.f64 (bitI BinOp.andNot IntKind.u64 (Int.ofNat x) 9223372036854775808)))))
noncomputable def zjr (x : Nat) : Option (Nat) := zjj x (fun c0_ => some c0_)
theorem ztt {R R' : Type} (o : Option R → Option R') (h0 : o none = none) (x : Nat) (k_ : Nat → Option R) : zjj x (fun c0_ => o (k_ c0_)) = o (zjj x k_) := by
  unfold zjj
  repeat (first | refine grd_out h0 ?_ | refine br_out ?_ ?_ | rfl | exact h0.symm)
noncomputable def zlh (x : Nat) : Bool := (zjr x).isSome
noncomputable def zks (x : Nat) : Nat := ((zjr x).getD default)
theorem zug {x : Nat} {r : Nat} (h : zjr x = some r) : zlh x = true ∧ zks x = r := by
  unfold zlh zks
  rw [h]
  exact ⟨rfl, rfl⟩
noncomputable def zbh {R : Type} (a_n : Nat) (a : List Nat) (q25 : Int) (k_ : Int → Option R) : Option R := (br (ltI (subI IntKind.i64 q25 (Int.ofNat a_n)) 0) (k_ (Int.negSucc 0)) (k_ (subI IntKind.i64 q25 (Int.ofNat a_n))))
noncomputable def zbb (a_n : Nat) (a : List Nat) (q25 : Int) : Option (Int) := zbh a_n a q25 (fun c0_ => some c0_)
theorem zo1 {R R' : Type} (o : Option R → Option R') (h0 : o none = none) (a_n : Nat) (a : List Nat) (q25 : Int) (k_ : Int → Option R) : zbh a_n a q25 (fun c0_ => o (k_ c0_)) = o (zbh a_n a q25 k_) := by
  unfold zbh
  repeat (first | refine grd_out h0 ?_ | refine br_out ?_ ?_ | rfl | exact h0.symm)
noncomputable def zb1 (a_n : Nat) (a : List Nat) (q25 : Int) : Bool := (zbb a_n a q25).isSome
noncomputable def z4j (a_n : Nat) (a : List Nat) (q25 : Int) : Int := ((zbb a_n a q25).getD default)
theorem zj8 {a_n : Nat} {a : List Nat} {q25 : Int} {r : Int} (h : zbb a_n a q25 = some r) : zb1 a_n a q25 = true ∧ z4j a_n a q25 = r := by
  unfold zb1 z4j
  rw [h]
  exact ⟨rfl, rfl⟩
noncomputable def zhq {R : Type} (n_ : Int) (low : Int) (q2g : Int) (k_ : Bool → Option R) : Option R := (br (leI low n_) (k_ (leI n_ q2g)) (k_ Bool.false))
noncomputable def zh6 (n_ : Int) (low : Int) (q2g : Int) : Option (Bool) := zhq n_ low q2g (fun c0_ => some c0_)
theorem zse {R R' : Type} (o : Option R → Option R') (h0 : o none = none) (n_ : Int) (low : Int) (q2g : Int) (k_ : Bool → Option R) : zhq n_ low q2g (fun c0_ => o (k_ c0_)) = o (zhq n_ low q2g k_) := by
  unfold zhq
  repeat (first | refine grd_out h0 ?_ | refine br_out ?_ ?_ | rfl | exact h0.symm)
noncomputable def zj6 (n_ : Int) (low : Int) (q2g : Int) : Bool := (zh6 n_ low q2g).isSome
noncomputable def zic (n_ : Int) (low : Int) (q2g : Int) : Bool := ((zh6 n_ low q2g).getD default)
theorem zpb {n_ : Int} {low : Int} {q2g : Int} {r : Bool} (h : zh6 n_ low q2g = some r) : zj6 n_ low q2g = true ∧ zic n_ low q2g = r := by
  unfold zj6 zic
  rw [h]
  exact ⟨rfl, rfl⟩
noncomputable def zed {R : Type} (q2c : Nat) (q2d : Nat) (q2e : Nat) (k_ : Unit → Option R) : Option R := (k_ ())
noncomputable def zlp (q2c : Nat) (q2d : Nat) (q2e : Nat) : Option (Unit) := zed q2c q2d q2e (fun _ => some ())
theorem zp9 {R R' : Type} (o : Option R → Option R') (h0 : o none = none) (q2c : Nat) (q2d : Nat) (q2e : Nat) (k_ : Unit → Option R) : zed q2c q2d q2e (fun _ => o (k_ ())) = o (zed q2c q2d q2e k_) := by
  unfold zed
  repeat (first | refine grd_out h0 ?_ | refine br_out ?_ ?_ | rfl | exact h0.symm)
noncomputable def zk7 (q2c : Nat) (q2d : Nat) (q2e : Nat) : Bool := (zlp q2c q2d q2e).isSome
noncomputable def zfb {R : Type} (q00 : Nat) (q03 : List Nat) (q02 : Nat) (q05 : List Nat) (q01 : Nat) (q04 : List Nat) (q06 : Nat) (q09 : List Nat) (q0e : Int) (q0h : Nat) (q0g : Nat) (i : Int) (q36 : Nat) (k_ : Nat → Option R) : Option R := (grd (okIx i q06) (k_ (fop BinOp.quo FloatKind.f32 (fop BinOp.quo FloatKind.f32 (fop BinOp.mul FloatKind.f32 (fOI FloatKind.f32 q0e) (fop BinOp.sub FloatKind.f32 q0g (gF q09 (ixO 0 i 3)))) (fop BinOp.mul FloatKind.f32 1073741824 (gF q09 (ixO 0 i 3)))) (fop BinOp.add FloatKind.f32 (fop BinOp.quo FloatKind.f32 (fop BinOp.mul FloatKind.f32 (fOI FloatKind.f32 q0e) (fop BinOp.sub FloatKind.f32 q0g (gF q09 (ixO 0 i 3)))) (fop BinOp.mul FloatKind.f32 1073741824 (gF q09 (ixO 0 i 3)))) q36))))
noncomputable def zf4 (q00 : Nat) (q03 : List Nat) (q02 : Nat) (q05 : List Nat) (q01 : Nat) (q04 : List Nat) (q06 : Nat) (q09 : List Nat) (q0e : Int) (q0h : Nat) (q0g : Nat) (i : Int) (q36 : Nat) : Option (Nat) := zfb q00 q03 q02 q05 q01 q04 q06 q09 q0e q0h q0g i q36 (fun c0_ => some c0_)
theorem zrp {R R' : Type} (o : Option R → Option R') (h0 : o none = none) (q00 : Nat) (q03 : List Nat) (q02 : Nat) (q05 : List Nat) (q01 : Nat) (q04 : List Nat) (q06 : Nat) (q09 : List Nat) (q0e : Int) (q0h : Nat) (q0g : Nat) (i : Int) (q36 : Nat) (k_ : Nat → Option R) : zfb q00 q03 q02 q05 q01 q04 q06 q09 q0e q0h q0g i q36 (fun c0_ => o (k_ c0_)) = o (zfb q00 q03 q02 q05 q01 q04 q06 q09 q0e q0h q0g i q36 k_) := by
  unfold zfb
  repeat (first | refine grd_out h0 ?_ | refine br_out ?_ ?_ | rfl | exact h0.symm)
noncomputable def zk3 (q00 : Nat) (q03 : List Nat) (q02 : Nat) (q05 : List Nat) (q01 : Nat) (q04 : List Nat) (q06 : Nat) (q09 : List Nat) (q0e : Int) (q0h : Nat) (q0g : Nat) (i : Int) (q36 : Nat) : Bool := (zf4 q00 q03 q02 q05 q01 q04 q06 q09 q0e q0h q0g i q36).isSome
noncomputable def zhn (q00 : Nat) (q03 : List Nat) (q02 : Nat) (q05 : List Nat) (q01 : Nat) (q04 : List Nat) (q06 : Nat) (q09 : List Nat) (q0e : Int) (q0h : Nat) (q0g : Nat) (i : Int) (q36 : Nat) : Nat := ((zf4 q00 q03 q02 q05 q01 q04 q06 q09 q0e q0h q0g i q36).getD default)
theorem ztx {q00 : Nat} {q03 : List Nat} {q02 : Nat} {q05 : List Nat} {q01 : Nat} {q04 : List Nat} {q06 : Nat} {q09 : List Nat} {q0e : Int} {q0h : Nat} {q0g : Nat} {i : Int} {q36 : Nat} {r : Nat} (h : zf4 q00 q03 q02 q05 q01 q04 q06 q09 q0e q0h q0g i q36 = some r) : zk3 q00 q03 q02 q05 q01 q04 q06 q09 q0e q0h q0g i q36 = true ∧ zhn q00 q03 q02 q05 q01 q04 q06 q09 q0e q0h q0g i q36 = r := by
  unfold zk3 zhn
  rw [h]
  exact ⟨rfl, rfl⟩
noncomputable def zae {R : Type} (q00 : Nat) (q03 : List Nat) (q02 : Nat) (q05 : List Nat) (q01 : Nat) (q04 : List Nat) (q06 : Nat) (q09 : List Nat) (q0e : Int) (q0h : Nat) (q0g : Nat) (i : Int) (k_ : Nat → Option R) : Option R := (grd (okIx i q06) (k_ (fop BinOp.quo FloatKind.f32 (fop BinOp.mul FloatKind.f32 (fOI FloatKind.f32 q0e) (gF q09 (Nat.succ (ixO 0 i 3)))) (fop BinOp.mul FloatKind.f32 1086918619 (gF q09 (ixO 0 i 3))))))
noncomputable def zaf (q00 : Nat) (q03 : List Nat) (q02 : Nat) (q05 : List Nat) (q01 : Nat) (q04 : List Nat) (q06 : Nat) (q09 : List Nat) (q0e : Int) (q0h : Nat) (q0g : Nat) (i : Int) : Option (Nat) := zae q00 q03 q02 q05 q01 q04 q06 q09 q0e q0h q0g i (fun c0_ => some c0_)
theorem zn2 {R R' : Type} (o : Option R → Option R') (h0 : o none = none) (q00 : Nat) (q03 : List Nat) (q02 : Nat) (q05 : List Nat) (q01 : Nat) (q04 : List Nat) (q06 : Nat) (q09 : List Nat) (q0e : Int) (q0h : Nat) (q0g : Nat) (i : Int) (k_ : Nat → Option R) : zae q00 q03 q02 q05 q01 q04 q06 q09 q0e q0h q0g i (fun c0_ => o (k_ c0_)) = o (zae q00 q03 q02 q05 q01 q04 q06 q09 q0e q0h q0g i k_) := by
  unfold zae
  repeat (first | refine grd_out h0 ?_ | refine br_out ?_ ?_ | rfl | exact h0.symm)
noncomputable def zfs (q00 : Nat) (q03 : List Nat) (q02 : Nat) (q05 : List Nat) (q01 : Nat) (q04 : List Nat) (q06 : Nat) (q09 : List Nat) (q0e : Int) (q0h : Nat) (q0g : Nat) (i : Int) : Bool := (zaf q00 q03 q02 q05 q01 q04 q06 q09 q0e q0h q0g i).isSome
noncomputable def zbq (q00 : Nat) (q03 : List Nat) (q02 : Nat) (q05 : List Nat) (q01 : Nat) (q04 : List Nat) (q06 : Nat) (q09 : List Nat) (q0e : Int) (q0h : Nat) (q0g : Nat) (i : Int) : Nat := ((zaf q00 q03 q02 q05 q01 q04 q06 q09 q0e q0h q0g i).getD default)
theorem zpv {q00 : Nat} {q03 : List Nat} {q02 : Nat} {q05 : List Nat} {q01 : Nat} {q04 : List Nat} {q06 : Nat} {q09 : List Nat} {q0e : Int} {q0h : Nat} {q0g : Nat} {i : Int} {r : Nat} (h : zaf q00 q03 q02 q05 q01 q04 q06 q09 q0e q0h q0g i = some r) : zfs q00 q03 q02 q05 q01 q04 q06 q09 q0e q0h q0g i = true ∧ zbq q00 q03 q02 q05 q01 q04 q06 q09 q0e q0h q0g i = r := by
  unfold zfs zbq
  rw [h]
  exact ⟨rfl, rfl⟩
noncomputable def zc6 {R : Type} (x : Nat) (k_ : Nat → Option R) : Option R := (grd (fcvB FloatKind.f64 FloatKind.f32 x) (k_ (fcvV FloatKind.f64 FloatKind.f32 x)))
noncomputable def zc2 (x : Nat) : Option (Nat) := zc6 x (fun c0_ => some c0_)
theorem zoe {R R' : Type} (o : Option R → Option R') (h0 : o none = none) (x : Nat) (k_ : Nat → Option R) : zc6 x (fun c0_ => o (k_ c0_)) = o (zc6 x k_) := by
  unfold zc6
  repeat (first | refine grd_out h0 ?_ | refine br_out ?_ ?_ | rfl | exact h0.symm)
noncomputable def ze9 (x : Nat) : Bool := (zc2 x).isSome
noncomputable def zbj (x : Nat) : Nat := ((zc2 x).getD default)
theorem zla {x : Nat} {r : Nat} (h : zc2 x = some r) : ze9 x = true ∧ zbj x = r := by
  unfold ze9 zbj
  rw [h]
  exact ⟨rfl, rfl⟩
noncomputable def zdw {R : Type} (x : Nat) (k_ : Nat → Bool → Option R) : Option R := (grd (z6z x) (br (bnot (z6j x)) (k_ 0 Bool.false) (k_ x Bool.true)))
noncomputable def zc7 (x : Nat) : Option (Nat × Bool) := zdw x (fun c0_ c1_ => some (c0_, c1_))
theorem zpx {R R' : Type} (o : Option R → Option R') (h0 : o none = none) (x : Nat) (k_ : Nat → Bool → Option R) : zdw x (fun c0_ c1_ => o (k_ c0_ c1_)) = o (zdw x k_) := by
  unfold zdw
  repeat (first | refine grd_out h0 ?_ | refine br_out ?_ ?_ | rfl | exact h0.symm)
noncomputable def zjq (x : Nat) : Bool := (zc7 x).isSome
noncomputable def zin (x : Nat) : Nat := ((zc7 x).getD default).1
noncomputable def zim (x : Nat) : Bool := ((zc7 x).getD default).2
theorem zt6 {x : Nat} {r : Nat × Bool} (h : zc7 x = some r) : zjq x = true ∧ zin x = r.1 ∧ zim x = r.2 := by
  unfold zjq zin zim
  rw [h]
  exact ⟨rfl, rfl, rfl⟩
noncomputable def z8o {R : Type} (q00 : Nat) (q03 : List Nat) (q02 : Nat) (q05 : List Nat) (q01 : Nat) (q04 : List Nat) (q06 : Nat) (q09 : List Nat) (q0e : Int) (q0h : Nat) (q0g : Nat) (i : Int) (k_ : Bool → Option R) : Option R := (grd (zif i 0 (subI IntKind.i64 (Int.ofNat q06) 1)) (k_ (zhe i 0 (subI IntKind.i64 (Int.ofNat q06) 1))))
noncomputable def z8r (q00 : Nat) (q03 : List Nat) (q02 : Nat) (q05 : List Nat) (q01 : Nat) (q04 : List Nat) (q06 : Nat) (q09 : List Nat) (q0e : Int) (q0h : Nat) (q0g : Nat) (i : Int) : Option (Bool) := z8o q00 q03 q02 q05 q01 q04 q06 q09 q0e q0h q0g i (fun c0_ => some c0_)
theorem zl2 {R R' : Type} (o : Option R → Option R') (h0 : o none = none) (q00 : Nat) (q03 : List Nat) (q02 : Nat) (q05 : List Nat) (q01 : Nat) (q04 : List Nat) (q06 : Nat) (q09 : List Nat) (q0e : Int) (q0h : Nat) (q0g : Nat) (i : Int) (k_ : Bool → Option R) : z8o q00 q03 q02 q05 q01 q04 q06 q09 q0e q0h q0g i (fun c0_ => o (k_ c0_)) = o (z8o q00 q03 q02 q05 q01 q04 q06 q09 q0e q0h q0g i k_) := by
  unfold z8o
  repeat (first | refine grd_out h0 ?_ | refine br_out ?_ ?_ | rfl | exact h0.symm)
noncomputable def zcj (q00 : Nat) (q03 : List Nat) (q02 : Nat) (q05 : List Nat) (q01 : Nat) (q04 : List Nat) (q06 : Nat) (q09 : List Nat) (q0e : Int) (q0h : Nat) (q0g : Nat) (i : Int) : Bool := (z8r q00 q03 q02 q05 q01 q04 q06 q09 q0e q0h q0g i).isSome
noncomputable def zbo (q00 : Nat) (q03 : List Nat) (q02 : Nat) (q05 : List Nat) (q01 : Nat) (q04 : List Nat) (q06 : Nat) (q09 : List Nat) (q0e : Int) (q0h : Nat) (q0g : Nat) (i : Int) : Bool := ((z8r q00 q03 q02 q05 q01 q04 q06 q09 q0e q0h q0g i).getD default)
theorem zmi {q00 : Nat} {q03 : List Nat} {q02 : Nat} {q05 : List Nat} {q01 : Nat} {q04 : List Nat} {q06 : Nat} {q09 : List Nat} {q0e : Int} {q0h : Nat} {q0g : Nat} {i : Int} {r : Bool} (h : z8r q00 q03 q02 q05 q01 q04 q06 q09 q0e q0h q0g i = some r) : zcj q00 q03 q02 q05 q01 q04 q06 q09 q0e q0h q0g i = true ∧ zbo q00 q03 q02 q05 q01 q04 q06 q09 q0e q0h q0g i = r := by
  unfold zcj zbo
  rw [h]
  exact ⟨rfl, rfl⟩
noncomputable def zf6 {R : Type} (q0z : Nat) (k_ : Bool → Option R) : Option R := (grd (zfj q0z 981668463 1048508891) (k_ (zec q0z 981668463 1048508891)))
noncomputable def zf9 (q0z : Nat) : Option (Bool) := zf6 q0z (fun c0_ => some c0_)
theorem zr3 {R R' : Type} (o : Option R → Option R') (h0 : o none = none) (q0z : Nat) (k_ : Bool → Option R) : zf6 q0z (fun c0_ => o (k_ c0_)) = o (zf6 q0z k_) := by
  unfold zf6
  repeat (first | refine grd_out h0 ?_ | refine br_out ?_ ?_ | rfl | exact h0.symm)
noncomputable def zk6 (q0z : Nat) : Bool := (zf9 q0z).isSome
noncomputable def zjp (q0z : Nat) : Bool := ((zf9 q0z).getD default)
theorem zth {q0z : Nat} {r : Bool} (h : zf9 q0z = some r) : zk6 q0z = true ∧ zjp q0z = r := by
  unfold zk6 zjp
  rw [h]
  exact ⟨rfl, rfl⟩
noncomputable def zdt {R : Type} (x : Nat) (k_ : Bool → Option R) : Option R := (grd (z6z x) (br (z6j x) (k_ (fcmp BinOp.geq FloatKind.f32 x 0)) (k_ Bool.false)))
noncomputable def zdr (x : Nat) : Option (Bool) := zdt x (fun c0_ => some c0_)
theorem zq0 {R R' : Type} (o : Option R → Option R') (h0 : o none = none) (x : Nat) (k_ : Bool → Option R) : zdt x (fun c0_ => o (k_ c0_)) = o (zdt x k_) := by
  unfold zdt
  repeat (first | refine grd_out h0 ?_ | refine br_out ?_ ?_ | rfl | exact h0.symm)
noncomputable def zhk (x : Nat) : Bool := (zdr x).isSome
noncomputable def zff (x : Nat) : Bool := ((zdr x).getD default)
theorem zmm {x : Nat} {r : Bool} (h : zdr x = some r) : zhk x = true ∧ zff x = r := by
  unfold zhk zff
  rw [h]
  exact ⟨rfl, rfl⟩
noncomputable def zfa {R : Type} (x : Nat) (k_ : Bool → Option R) : Option R := (grd (zlh x) (k_ (fcmp BinOp.geq FloatKind.f64 (zks x) 4841369599423283200)))
noncomputable def zf5 (x : Nat) : Option (Bool) := zfa x (fun c0_ => some c0_)
theorem zr0 {R R' : Type} (o : Option R → Option R') (h0 : o none = none) (x : Nat) (k_ : Bool → Option R) : zfa x (fun c0_ => o (k_ c0_)) = o (zfa x k_) := by
  unfold zfa
  repeat (first | refine grd_out h0 ?_ | refine br_out ?_ ?_ | rfl | exact h0.symm)
noncomputable def zk5 (x : Nat) : Bool := (zf5 x).isSome
noncomputable def zjs (x : Nat) : Bool := ((zf5 x).getD default)
theorem zts {x : Nat} {r : Bool} (h : zf5 x = some r) : zk5 x = true ∧ zjs x = r := by
  unfold zk5 zjs
  rw [h]
  exact ⟨rfl, rfl⟩
noncomputable def zcf {R : Type} (q17 : Nat) (q1n : List Nat) (q1d : Nat) (q1p : List Nat) (q1g : Nat) (q1r : List Nat) (q25 : Int) (k_ : Int → Option R) : Option R := (grd (zb1 q17 (pF q1n 0 (muN q17 1)) q25) (br (ltI (z4j q17 (pF q1n 0 (muN q17 1)) q25) 0) (k_ (Int.negSucc 0)) (grd (zb1 q1d (pF q1p 0 (muN q1d 1)) (z4j q17 (pF q1n 0 (muN q17 1)) q25)) (br (ltI (z4j q1d (pF q1p 0 (muN q1d 1)) (z4j q17 (pF q1n 0 (muN q17 1)) q25)) 0) (k_ (Int.negSucc 0)) (grd (zb1 q1g (pF q1r 0 (muN q1g 1)) (z4j q1d (pF q1p 0 (muN q1d 1)) (z4j q17 (pF q1n 0 (muN q17 1)) q25))) (br (ltI (z4j q1g (pF q1r 0 (muN q1g 1)) (z4j q1d (pF q1p 0 (muN q1d 1)) (z4j q17 (pF q1n 0 (muN q17 1)) q25))) 0) (k_ (Int.negSucc 0)) (k_ (z4j q1g (pF q1r 0 (muN q1g 1)) (z4j q1d (pF q1p 0 (muN q1d 1)) (z4j q17 (pF q1n 0 (muN q17 1)) q25))))))))))
noncomputable def zbu (q17 : Nat) (q1n : List Nat) (q1d : Nat) (q1p : List Nat) (q1g : Nat) (q1r : List Nat) (q25 : Int) : Option (Int) := zcf q17 q1n q1d q1p q1g q1r q25 (fun c0_ => some c0_)
theorem zos {R R' : Type} (o : Option R → Option R') (h0 : o none = none) (q17 : Nat) (q1n : List Nat) (q1d : Nat) (q1p : List Nat) (q1g : Nat) (q1r : List Nat) (q25 : Int) (k_ : Int → Option R) : zcf q17 q1n q1d q1p q1g q1r q25 (fun c0_ => o (k_ c0_)) = o (zcf q17 q1n q1d q1p q1g q1r q25 k_) := by
  unfold zcf
  repeat (first | refine grd_out h0 ?_ | refine br_out ?_ ?_ | rfl | exact h0.symm)
noncomputable def zhz (q17 : Nat) (q1n : List Nat) (q1d : Nat) (q1p : List Nat) (q1g : Nat) (q1r : List Nat) (q25 : Int) : Bool := (zbu q17 q1n q1d q1p q1g q1r q25).isSome
noncomputable def z9p (q17 : Nat) (q1n : List Nat) (q1d : Nat) (q1p : List Nat) (q1g : Nat) (q1r : List Nat) (q25 : Int) : Int := ((zbu q17 q1n q1d q1p q1g q1r q25).getD default)
theorem zro {q17 : Nat} {q1n : List Nat} {q1d : Nat} {q1p : List Nat} {q1g : Nat} {q1r : List Nat} {q25 : Int} {r : Int} (h : zbu q17 q1n q1d q1p q1g q1r q25 = some r) : zhz q17 q1n q1d q1p q1g q1r q25 = true ∧ z9p q17 q1n q1d q1p q1g q1r q25 = r := by
  unfold zhz z9p
  rw [h]
  exact ⟨rfl, rfl⟩
noncomputable def zcq {R : Type} (q00 : Nat) (q03 : List Nat) (q02 : Nat) (q05 : List Nat) (q01 : Nat) (q04 : List Nat) (q06 : Nat) (q09 : List Nat) (q0e : Int) (q0h : Nat) (q0g : Nat) (i : Int) (q0q : Nat) (k_ : Bool → Option R) : Option R := (grd (okIx i q06) (grd (z5p (fop BinOp.sub FloatKind.f32 (fop BinOp.sub FloatKind.f32 981668463 (gF q09 (Nat.succ (Nat.succ (ixO 0 i 3))))) q0q)) (br (z53 (fop BinOp.sub FloatKind.f32 (fop BinOp.sub FloatKind.f32 981668463 (gF q09 (Nat.succ (Nat.succ (ixO 0 i 3))))) q0q)) (grd (okIx i q06) (grd (z5p (fop BinOp.sub FloatKind.f32 (fop BinOp.sub FloatKind.f32 1048508891 (gF q09 (Nat.succ (Nat.succ (ixO 0 i 3))))) q0q)) (k_ (z53 (fop BinOp.sub FloatKind.f32 (fop BinOp.sub FloatKind.f32 1048508891 (gF q09 (Nat.succ (Nat.succ (ixO 0 i 3))))) q0q))))) (k_ Bool.false))))
noncomputable def zcz (q00 : Nat) (q03 : List Nat) (q02 : Nat) (q05 : List Nat) (q01 : Nat) (q04 : List Nat) (q06 : Nat) (q09 : List Nat) (q0e : Int) (q0h : Nat) (q0g : Nat) (i : Int) (q0q : Nat) : Option (Bool) := zcq q00 q03 q02 q05 q01 q04 q06 q09 q0e q0h q0g i q0q (fun c0_ => some c0_)
theorem zpq {R R' : Type} (o : Option R → Option R') (h0 : o none = none) (q00 : Nat) (q03 : List Nat) (q02 : Nat) (q05 : List Nat) (q01 : Nat) (q04 : List Nat) (q06 : Nat) (q09 : List Nat) (q0e : Int) (q0h : Nat) (q0g : Nat) (i : Int) (q0q : Nat) (k_ : Bool → Option R) : zcq q00 q03 q02 q05 q01 q04 q06 q09 q0e q0h q0g i q0q (fun c0_ => o (k_ c0_)) = o (zcq q00 q03 q02 q05 q01 q04 q06 q09 q0e q0h q0g i q0q k_) := by
  unfold zcq
  repeat (first | refine grd_out h0 ?_ | refine br_out ?_ ?_ | rfl | exact h0.symm)
noncomputable def zis (q00 : Nat) (q03 : List Nat) (q02 : Nat) (q05 : List Nat) (q01 : Nat) (q04 : List Nat) (q06 : Nat) (q09 : List Nat) (q0e : Int) (q0h : Nat) (q0g : Nat) (i : Int) (q0q : Nat) : Bool := (zcz q00 q03 q02 q05 q01 q04 q06 q09 q0e q0h q0g i q0q).isSome
noncomputable def zib (q00 : Nat) (q03 : List Nat) (q02 : Nat) (q05 : List Nat) (q01 : Nat) (q04 : List Nat) (q06 : Nat) (q09 : List Nat) (q0e : Int) (q0h : Nat) (q0g : Nat) (i : Int) (q0q : Nat) : Bool := ((zcz q00 q03 q02 q05 q01 q04 q06 q09 q0e q0h q0g i q0q).getD default)
theorem zs2 {q00 : Nat} {q03 : List Nat} {q02 : Nat} {q05 : List Nat} {q01 : Nat} {q04 : List Nat} {q06 : Nat} {q09 : List Nat} {q0e : Int} {q0h : Nat} {q0g : Nat} {i : Int} {q0q : Nat} {r : Bool} (h : zcz q00 q03 q02 q05 q01 q04 q06 q09 q0e q0h q0g i q0q = some r) : zis q00 q03 q02 q05 q01 q04 q06 q09 q0e q0h q0g i q0q = true ∧ zib q00 q03 q02 q05 q01 q04 q06 q09 q0e q0h q0g i q0q = r := by
  unfold zis zib
  rw [h]
  exact ⟨rfl, rfl⟩
noncomputable def zcd {R : Type} (x : Nat) (k_ : Nat → Bool → Option R) : Option R := (grd (z5p x) (br (bnot (z53 x)) (k_ 0 Bool.false) (k_ x Bool.true)))
noncomputable def za9 (x : Nat) : Option (Nat × Bool) := zcd x (fun c0_ c1_ => some (c0_, c1_))
theorem zp3 {R R' : Type} (o : Option R → Option R') (h0 : o none = none) (x : Nat) (k_ : Nat → Bool → Option R) : zcd x (fun c0_ c1_ => o (k_ c0_ c1_)) = o (zcd x k_) := by
  unfold zcd
  repeat (first | refine grd_out h0 ?_ | refine br_out ?_ ?_ | rfl | exact h0.symm)
noncomputable def zi8 (x : Nat) : Bool := (za9 x).isSome
noncomputable def zgz (x : Nat) : Nat := ((za9 x).getD default).1
noncomputable def zgi (x : Nat) : Bool := ((za9 x).getD default).2
theorem zr4 {x : Nat} {r : Nat × Bool} (h : za9 x = some r) : zi8 x = true ∧ zgz x = r.1 ∧ zgi x = r.2 := by
  unfold zi8 zgz zgi
  rw [h]
  exact ⟨rfl, rfl, rfl⟩
noncomputable def zd1 {R : Type} (x : Nat) (k_ : Bool → Option R) : Option R := (grd (z5p x) (br (z53 x) (k_ (fcmp BinOp.gtr FloatKind.f32 x 0)) (k_ Bool.false)))
noncomputable def zcp (x : Nat) : Option (Bool) := zd1 x (fun c0_ => some c0_)
theorem zpw {R R' : Type} (o : Option R → Option R') (h0 : o none = none) (x : Nat) (k_ : Bool → Option R) : zd1 x (fun c0_ => o (k_ c0_)) = o (zd1 x k_) := by
  unfold zd1
  repeat (first | refine grd_out h0 ?_ | refine br_out ?_ ?_ | rfl | exact h0.symm)
noncomputable def zcn (x : Nat) : Bool := (zcp x).isSome
noncomputable def zch (x : Nat) : Bool := ((zcp x).getD default)
theorem zk8 {x : Nat} {r : Bool} (h : zcp x = some r) : zcn x = true ∧ zch x = r := by
  unfold zcn zch
  rw [h]
  exact ⟨rfl, rfl⟩
noncomputable def zai {R : Type} (x : Nat) (k_ : Bool → Option R) : Option R := (grd (z6z x) (k_ (bnot (z6j x))))
noncomputable def zab (x : Nat) : Option (Bool) := zai x (fun c0_ => some c0_)
theorem zn5 {R R' : Type} (o : Option R → Option R') (h0 : o none = none) (x : Nat) (k_ : Bool → Option R) : zai x (fun c0_ => o (k_ c0_)) = o (zai x k_) := by
  unfold zai
  repeat (first | refine grd_out h0 ?_ | refine br_out ?_ ?_ | rfl | exact h0.symm)
noncomputable def zfx (x : Nat) : Bool := (zab x).isSome
noncomputable def zeg (x : Nat) : Bool := ((zab x).getD default)
theorem zpr {x : Nat} {r : Bool} (h : zab x = some r) : zfx x = true ∧ zeg x = r := by
  unfold zfx zeg
  rw [h]
  exact ⟨rfl, rfl⟩
noncomputable def z9b {R : Type} (x : Nat) (k_ : Bool → Option R) : Option R := (grd (z6z x) (br (bnot (z6j x)) (k_ Bool.true) (k_ (fcmp BinOp.leq FloatKind.f32 x 0))))
noncomputable def z9g (x : Nat) : Option (Bool) := z9b x (fun c0_ => some c0_)
theorem zm0 {R R' : Type} (o : Option R → Option R') (h0 : o none = none) (x : Nat) (k_ : Bool → Option R) : z9b x (fun c0_ => o (k_ c0_)) = o (z9b x k_) := by
  unfold z9b
  repeat (first | refine grd_out h0 ?_ | refine br_out ?_ ?_ | rfl | exact h0.symm)
noncomputable def zdf (x : Nat) : Bool := (z9g x).isSome
noncomputable def zcy (x : Nat) : Bool := ((z9g x).getD default)
theorem znh {x : Nat} {r : Bool} (h : z9g x = some r) : zdf x = true ∧ zcy x = r := by
  unfold zdf zcy
  rw [h]
  exact ⟨rfl, rfl⟩
noncomputable def zc1 {R : Type} (q2c : Nat) (q2d : Nat) (q2e : Nat) (q2q : Nat) (q2v : Nat) (q2x : Nat) (k_ : Bool → Option R) : Option R := (grd (z88 (fcvV FloatKind.f32 FloatKind.f64 q2c) (fcvV FloatKind.f32 FloatKind.f64 q2q)) (br (bnot (z7t (fcvV FloatKind.f32 FloatKind.f64 q2c) (fcvV FloatKind.f32 FloatKind.f64 q2q))) (k_ Bool.false) (grd (z88 (fcvV FloatKind.f32 FloatKind.f64 q2d) (fcvV FloatKind.f32 FloatKind.f64 q2v)) (br (bnot (z7t (fcvV FloatKind.f32 FloatKind.f64 q2d) (fcvV FloatKind.f32 FloatKind.f64 q2v))) (k_ Bool.false) (grd (z88 (fcvV FloatKind.f32 FloatKind.f64 q2e) (fcvV FloatKind.f32 FloatKind.f64 q2x)) (br (bnot (z7t (fcvV FloatKind.f32 FloatKind.f64 q2e) (fcvV FloatKind.f32 FloatKind.f64 q2x))) (k_ Bool.false) (k_ Bool.true)))))))
noncomputable def zbv (q2c : Nat) (q2d : Nat) (q2e : Nat) (q2q : Nat) (q2v : Nat) (q2x : Nat) : Option (Bool) := zc1 q2c q2d q2e q2q q2v q2x (fun c0_ => some c0_)
theorem zpa {R R' : Type} (o : Option R → Option R') (h0 : o none = none) (q2c : Nat) (q2d : Nat) (q2e : Nat) (q2q : Nat) (q2v : Nat) (q2x : Nat) (k_ : Bool → Option R) : zc1 q2c q2d q2e q2q q2v q2x (fun c0_ => o (k_ c0_)) = o (zc1 q2c q2d q2e q2q q2v q2x k_) := by
  unfold zc1
  repeat (first | refine grd_out h0 ?_ | refine br_out ?_ ?_ | rfl | exact h0.symm)
noncomputable def zi4 (q2c : Nat) (q2d : Nat) (q2e : Nat) (q2q : Nat) (q2v : Nat) (q2x : Nat) : Bool := (zbv q2c q2d q2e q2q q2v q2x).isSome
noncomputable def zgl (q2c : Nat) (q2d : Nat) (q2e : Nat) (q2q : Nat) (q2v : Nat) (q2x : Nat) : Bool := ((zbv q2c q2d q2e q2q q2v q2x).getD default)
theorem zre {q2c : Nat} {q2d : Nat} {q2e : Nat} {q2q : Nat} {q2v : Nat} {q2x : Nat} {r : Bool} (h : zbv q2c q2d q2e q2q q2v q2x = some r) : zi4 q2c q2d q2e q2q q2v q2x = true ∧ zgl q2c q2d q2e q2q q2v q2x = r := by
  unfold zi4 zgl
  rw [h]
  exact ⟨rfl, rfl⟩
noncomputable def zcr {R : Type} (x : Nat) (k_ : Bool → Option R) : Option R := (grd (z5p x) (br (z53 x) (k_ (fcmp BinOp.geq FloatKind.f32 x 0)) (k_ Bool.false)))
noncomputable def zcv (x : Nat) : Option (Bool) := zcr x (fun c0_ => some c0_)
theorem zpu {R R' : Type} (o : Option R → Option R') (h0 : o none = none) (x : Nat) (k_ : Bool → Option R) : zcr x (fun c0_ => o (k_ c0_)) = o (zcr x k_) := by
  unfold zcr
  repeat (first | refine grd_out h0 ?_ | refine br_out ?_ ?_ | rfl | exact h0.symm)
noncomputable def z9r (x : Nat) : Bool := (zcv x).isSome
noncomputable def z98 (x : Nat) : Bool := ((zcv x).getD default)
theorem zlt {x : Nat} {r : Bool} (h : zcv x = some r) : z9r x = true ∧ z98 x = r := by
  unfold z9r z98
  rw [h]
  exact ⟨rfl, rfl⟩
noncomputable def z78 {R : Type} (an : Nat) (q2b : Nat) (b0 : List Nat) (i : Int) (b1 : List Nat) (kn_ : Int → (List Nat) → Option R) (k0_ : Int → Bool → (List Nat) → Option R) : Option R := (br (ltI i (Int.ofNat an)) (grd (okIx i an) (grd (okIx i q2b) (kn_ (addI IntKind.i64 i 1) (sF b1 (ixO 0 i 1) (gF b0 (ixO 0 i 1)))))) (k0_ i (ltI i (Int.ofNat an)) b1))
theorem zlx {R R' : Type} (o : Option R → Option R') (h0 : o none = none) (an : Nat) (q2b : Nat) (b0 : List Nat) (i : Int) (b1 : List Nat) (kn_ : Int → (List Nat) → Option R) (k0_ : Int → Bool → (List Nat) → Option R) : z78 an q2b b0 i b1 (fun i' b1' => o (kn_ i' b1')) (fun c0_ c1_ c2_ => o (k0_ c0_ c1_ c2_)) = o (z78 an q2b b0 i b1 kn_ k0_) := by
  unfold z78
  repeat (first | refine grd_out h0 ?_ | refine br_out ?_ ?_ | rfl | exact h0.symm)
noncomputable def z5o (an : Nat) (q2b : Nat) (b0 : List Nat) : Nat → Int → (List Nat) → Option ((Int × Bool × (List Nat)))
  | 0, _, _ => none
  | n + 1, i, b1 => z78 an q2b b0  i b1  (fun i' b1' => z5o an q2b b0 n i' b1') (fun c0_ c1_ c2_ => some (c0_, c1_, c2_))
theorem zix (an : Nat) (q2b : Nat) (b0 : List Nat) (n : Nat) (i : Int) (b1 : List Nat) : z5o an q2b b0 (n + 1) i b1 = z78 an q2b b0  i b1  (fun i' b1' => z5o an q2b b0 n i' b1') (fun c0_ c1_ c2_ => some (c0_, c1_, c2_)) := rfl
noncomputable def zav (an : Nat) (q2b : Nat) (b0 : List Nat) (i : Int) (b1 : List Nat) : Bool := (z5o an q2b b0 big i b1).isSome
noncomputable def zeq (an : Nat) (q2b : Nat) (b0 : List Nat) (i : Int) (b1 : List Nat) : Int := ((z5o an q2b b0 big i b1).getD default).1
noncomputable def zez (an : Nat) (q2b : Nat) (b0 : List Nat) (i : Int) (b1 : List Nat) : Bool := ((z5o an q2b b0 big i b1).getD default).2.1
noncomputable def z9i (an : Nat) (q2b : Nat) (b0 : List Nat) (i : Int) (b1 : List Nat) : List Nat := ((z5o an q2b b0 big i b1).getD default).2.2
theorem zmx {an : Nat} {q2b : Nat} {b0 : List Nat} {i : Int} {b1 : List Nat} {m : Nat} {r : Int × Bool × (List Nat)} (hm : m = big) (h : z5o an q2b b0 m i b1 = some r) : zav an q2b b0 i b1 = true ∧ zeq an q2b b0 i b1 = r.1 ∧ zez an q2b b0 i b1 = r.2.1 ∧ z9i an q2b b0 i b1 = r.2.2 := by
  subst hm
  unfold zav zeq zez z9i
  rw [h]
  exact ⟨rfl, rfl, rfl, rfl⟩
noncomputable def zdx {R : Type} (q0k : Nat) (q0p : List Nat) (q0m : Nat) (q0t : List Nat) (q0l : Nat) (q0s : List Nat) (q11 : Nat) (q1b : List Nat) (q1o : Int) (q20 : Nat) (q1z : Nat) (q25 : Int) (k_ : Int → Option R) : Option R := (grd (zhz q0k (pF q0p 0 (muN q0k 1)) q0m (pF q0t 0 (muN q0m 1)) q0l (pF q0s 0 (muN q0l 1)) q25) (br (ltI (z9p q0k (pF q0p 0 (muN q0k 1)) q0m (pF q0t 0 (muN q0m 1)) q0l (pF q0s 0 (muN q0l 1)) q25) 0) (k_ (Int.negSucc 0)) (grd (zgw q11 (pF q1b 0 (muN q11 3)) (z9p q0k (pF q0p 0 (muN q0k 1)) q0m (pF q0t 0 (muN q0m 1)) q0l (pF q0s 0 (muN q0l 1)) q25)) (br (ltI (zcl q11 (pF q1b 0 (muN q11 3)) (z9p q0k (pF q0p 0 (muN q0k 1)) q0m (pF q0t 0 (muN q0m 1)) q0l (pF q0s 0 (muN q0l 1)) q25)) 0) (k_ (Int.negSucc 0)) (k_ (zcl q11 (pF q1b 0 (muN q11 3)) (z9p q0k (pF q0p 0 (muN q0k 1)) q0m (pF q0t 0 (muN q0m 1)) q0l (pF q0s 0 (muN q0l 1)) q25)))))))
noncomputable def zdn (q0k : Nat) (q0p : List Nat) (q0m : Nat) (q0t : List Nat) (q0l : Nat) (q0s : List Nat) (q11 : Nat) (q1b : List Nat) (q1o : Int) (q20 : Nat) (q1z : Nat) (q25 : Int) : Option (Int) := zdx q0k q0p q0m q0t q0l q0s q11 q1b q1o q20 q1z q25 (fun c0_ => some c0_)
theorem zq6 {R R' : Type} (o : Option R → Option R') (h0 : o none = none) (q0k : Nat) (q0p : List Nat) (q0m : Nat) (q0t : List Nat) (q0l : Nat) (q0s : List Nat) (q11 : Nat) (q1b : List Nat) (q1o : Int) (q20 : Nat) (q1z : Nat) (q25 : Int) (k_ : Int → Option R) : zdx q0k q0p q0m q0t q0l q0s q11 q1b q1o q20 q1z q25 (fun c0_ => o (k_ c0_)) = o (zdx q0k q0p q0m q0t q0l q0s q11 q1b q1o q20 q1z q25 k_) := by
  unfold zdx
  repeat (first | refine grd_out h0 ?_ | refine br_out ?_ ?_ | rfl | exact h0.symm)
noncomputable def zhg (q0k : Nat) (q0p : List Nat) (q0m : Nat) (q0t : List Nat) (q0l : Nat) (q0s : List Nat) (q11 : Nat) (q1b : List Nat) (q1o : Int) (q20 : Nat) (q1z : Nat) (q25 : Int) : Bool := (zdn q0k q0p q0m q0t q0l q0s q11 q1b q1o q20 q1z q25).isSome
noncomputable def zg0 (q0k : Nat) (q0p : List Nat) (q0m : Nat) (q0t : List Nat) (q0l : Nat) (q0s : List Nat) (q11 : Nat) (q1b : List Nat) (q1o : Int) (q20 : Nat) (q1z : Nat) (q25 : Int) : Int := ((zdn q0k q0p q0m q0t q0l q0s q11 q1b q1o q20 q1z q25).getD default)
theorem zt8 {q0k : Nat} {q0p : List Nat} {q0m : Nat} {q0t : List Nat} {q0l : Nat} {q0s : List Nat} {q11 : Nat} {q1b : List Nat} {q1o : Int} {q20 : Nat} {q1z : Nat} {q25 : Int} {r : Int} (h : zdn q0k q0p q0m q0t q0l q0s q11 q1b q1o q20 q1z q25 = some r) : zhg q0k q0p q0m q0t q0l q0s q11 q1b q1o q20 q1z q25 = true ∧ zg0 q0k q0p q0m q0t q0l q0s q11 q1b q1o q20 q1z q25 = r := by
  unfold zhg zg0
  rw [h]
  exact ⟨rfl, rfl⟩
noncomputable def zbi {R : Type} (x : Nat) (k_ : Bool → Option R) : Option R := (grd (zhk x) (k_ (bnot (zff x))))
noncomputable def zb5 (x : Nat) : Option (Bool) := zbi x (fun c0_ => some c0_)
theorem zns {R R' : Type} (o : Option R → Option R') (h0 : o none = none) (x : Nat) (k_ : Bool → Option R) : zbi x (fun c0_ => o (k_ c0_)) = o (zbi x k_) := by
  unfold zbi
  repeat (first | refine grd_out h0 ?_ | refine br_out ?_ ?_ | rfl | exact h0.symm)
noncomputable def zgx (x : Nat) : Bool := (zb5 x).isSome
noncomputable def zfy (x : Nat) : Bool := ((zb5 x).getD default)
theorem zq8 {x : Nat} {r : Bool} (h : zb5 x = some r) : zgx x = true ∧ zfy x = r := by
  unfold zgx zfy
  rw [h]
  exact ⟨rfl, rfl⟩
noncomputable def zhf {R : Type} (x : Nat) (k_ : Nat → Option R) : Option R := (grd (bnot (nanQ FloatKind.f64 x)) (k_ (fint Ieee.Toward.zero x)))
noncomputable def zh4 (x : Nat) : Option (Nat) := zhf x (fun c0_ => some c0_)
theorem zs7 {R R' : Type} (o : Option R → Option R') (h0 : o none = none) (x : Nat) (k_ : Nat → Option R) : zhf x (fun c0_ => o (k_ c0_)) = o (zhf x k_) := by
  unfold zhf
  repeat (first | refine grd_out h0 ?_ | refine br_out ?_ ?_ | rfl | exact h0.symm)
noncomputable def zkj (x : Nat) : Bool := (zh4 x).isSome
noncomputable def zd2 (x : Nat) : Nat := ((zh4 x).getD default)
theorem zu4 {x : Nat} {r : Nat} (h : zh4 x = some r) : zkj x = true ∧ zd2 x = r := by
  unfold zkj zd2
  rw [h]
  exact ⟨rfl, rfl⟩
noncomputable def zaz {R : Type} (a_n : Nat) (a : List Nat) (k_ : Nat → (List Nat) → Option R) : Option R := (grd (okMk (Int.ofNat a_n) (Int.ofNat a_n) 4) (grd (zav a_n (toN (Int.ofNat a_n)) a 0 (rF (muN (toN (Int.ofNat a_n)) 1))) (k_ (toN (Int.ofNat a_n)) (z9i a_n (toN (Int.ofNat a_n)) a 0 (rF (muN (toN (Int.ofNat a_n)) 1))))))
noncomputable def z9m (a_n : Nat) (a : List Nat) : Option (Nat × (List Nat)) := zaz a_n a (fun c0_ c1_ => some (c0_, c1_))
theorem znj {R R' : Type} (o : Option R → Option R') (h0 : o none = none) (a_n : Nat) (a : List Nat) (k_ : Nat → (List Nat) → Option R) : zaz a_n a (fun c0_ c1_ => o (k_ c0_ c1_)) = o (zaz a_n a k_) := by
  unfold zaz
  repeat (first | refine grd_out h0 ?_ | refine br_out ?_ ?_ | rfl | exact h0.symm)
noncomputable def zbk (a_n : Nat) (a : List Nat) : Bool := (z9m a_n a).isSome
noncomputable def zac (a_n : Nat) (a : List Nat) : Nat := ((z9m a_n a).getD default).1
noncomputable def zah (a_n : Nat) (a : List Nat) : List Nat := ((z9m a_n a).getD default).2
theorem zj1 {a_n : Nat} {a : List Nat} {r : Nat × (List Nat)} (h : z9m a_n a = some r) : zbk a_n a = true ∧ zac a_n a = r.1 ∧ zah a_n a = r.2 := by
  unfold zbk zac zah
  rw [h]
  exact ⟨rfl, rfl, rfl⟩
noncomputable def z77 {R : Type} (an : Nat) (q2b : Nat) (b0 : List Nat) (i : Int) (b1 : List Nat) (kn_ : Int → (List Nat) → Option R) (k0_ : Int → Bool → (List Nat) → Option R) : Option R := (br (ltI i (Int.ofNat an)) (grd (okIx i an) (grd (zk7 (gF b0 (ixO 0 i 3)) (gF b0 (Nat.succ (ixO 0 i 3))) (gF b0 (Nat.succ (Nat.succ (ixO 0 i 3))))) (grd (okIx i q2b) (kn_ (addI IntKind.i64 i 1) (sF (sF (sF b1 (ixO 0 i 3) (gF b0 (ixO 0 i 3))) (Nat.succ (ixO 0 i 3)) (gF b0 (Nat.succ (ixO 0 i 3)))) (Nat.succ (Nat.succ (ixO 0 i 3))) (gF b0 (Nat.succ (Nat.succ (ixO 0 i 3))))))))) (k0_ i (ltI i (Int.ofNat an)) b1))
theorem zlm {R R' : Type} (o : Option R → Option R') (h0 : o none = none) (an : Nat) (q2b : Nat) (b0 : List Nat) (i : Int) (b1 : List Nat) (kn_ : Int → (List Nat) → Option R) (k0_ : Int → Bool → (List Nat) → Option R) : z77 an q2b b0 i b1 (fun i' b1' => o (kn_ i' b1')) (fun c0_ c1_ c2_ => o (k0_ c0_ c1_ c2_)) = o (z77 an q2b b0 i b1 kn_ k0_) := by
  unfold z77
  repeat (first | refine grd_out h0 ?_ | refine br_out ?_ ?_ | rfl | exact h0.symm)
noncomputable def z3r (an : Nat) (q2b : Nat) (b0 : List Nat) : Nat → Int → (List Nat) → Option ((Int × Bool × (List Nat)))
  | 0, _, _ => none
  | n + 1, i, b1 => z77 an q2b b0  i b1  (fun i' b1' => z3r an q2b b0 n i' b1') (fun c0_ c1_ c2_ => some (c0_, c1_, c2_))
theorem zip (an : Nat) (q2b : Nat) (b0 : List Nat) (n : Nat) (i : Int) (b1 : List Nat) : z3r an q2b b0 (n + 1) i b1 = z77 an q2b b0  i b1  (fun i' b1' => z3r an q2b b0 n i' b1') (fun c0_ c1_ c2_ => some (c0_, c1_, c2_)) := rfl
noncomputable def zap (an : Nat) (q2b : Nat) (b0 : List Nat) (i : Int) (b1 : List Nat) : Bool := (z3r an q2b b0 big i b1).isSome
noncomputable def zf0 (an : Nat) (q2b : Nat) (b0 : List Nat) (i : Int) (b1 : List Nat) : Int := ((z3r an q2b b0 big i b1).getD default).1
noncomputable def zem (an : Nat) (q2b : Nat) (b0 : List Nat) (i : Int) (b1 : List Nat) : Bool := ((z3r an q2b b0 big i b1).getD default).2.1
noncomputable def z9k (an : Nat) (q2b : Nat) (b0 : List Nat) (i : Int) (b1 : List Nat) : List Nat := ((z3r an q2b b0 big i b1).getD default).2.2
theorem zn3 {an : Nat} {q2b : Nat} {b0 : List Nat} {i : Int} {b1 : List Nat} {m : Nat} {r : Int × Bool × (List Nat)} (hm : m = big) (h : z3r an q2b b0 m i b1 = some r) : zap an q2b b0 i b1 = true ∧ zf0 an q2b b0 i b1 = r.1 ∧ zem an q2b b0 i b1 = r.2.1 ∧ z9k an q2b b0 i b1 = r.2.2 := by
  subst hm
  unfold zap zf0 zem z9k
  rw [h]
  exact ⟨rfl, rfl, rfl, rfl⟩
noncomputable def z79 {R : Type} (an : Nat) (bn : Nat) (b0 : List Nat) (b1 : List Nat) (i : Int) (kn_ : Int → Option R) (k0_ : Unit → Option R) (k1_ : Int → Bool → Option R) : Option R := (br (ltI i (Int.ofNat an)) (grd (okIx i an) (grd (okIx i bn) (grd (z88 (fcvV FloatKind.f32 FloatKind.f64 (gF b0 (ixO 0 i 1))) (fcvV FloatKind.f32 FloatKind.f64 (gF b1 (ixO 0 i 1)))) (br (bnot (z7t (fcvV FloatKind.f32 FloatKind.f64 (gF b0 (ixO 0 i 1))) (fcvV FloatKind.f32 FloatKind.f64 (gF b1 (ixO 0 i 1))))) (k0_ ()) (kn_ (addI IntKind.i64 i 1)))))) (k1_ i (ltI i (Int.ofNat an))))
theorem zlo {R R' : Type} (o : Option R → Option R') (h0 : o none = none) (an : Nat) (bn : Nat) (b0 : List Nat) (b1 : List Nat) (i : Int) (kn_ : Int → Option R) (k0_ : Unit → Option R) (k1_ : Int → Bool → Option R) : z79 an bn b0 b1 i (fun i' => o (kn_ i')) (fun _ => o (k0_ ())) (fun c0_ c1_ => o (k1_ c0_ c1_)) = o (z79 an bn b0 b1 i kn_ k0_ k1_) := by
  unfold z79
  repeat (first | refine grd_out h0 ?_ | refine br_out ?_ ?_ | rfl | exact h0.symm)
noncomputable def z5n (an : Nat) (bn : Nat) (b0 : List Nat) (b1 : List Nat) : Nat → Int → Option ((Unit) ⊕ (Int × Bool))
  | 0, _ => none
  | n + 1, i => z79 an bn b0 b1  i  (fun i' => z5n an bn b0 b1 n i') (fun _ => some (Sum.inl ())) (fun c0_ c1_ => some (Sum.inr (c0_, c1_)))
theorem zit (an : Nat) (bn : Nat) (b0 : List Nat) (b1 : List Nat) (n : Nat) (i : Int) : z5n an bn b0 b1 (n + 1) i = z79 an bn b0 b1  i  (fun i' => z5n an bn b0 b1 n i') (fun _ => some (Sum.inl ())) (fun c0_ c1_ => some (Sum.inr (c0_, c1_))) := rfl
noncomputable def zda (an : Nat) (bn : Nat) (b0 : List Nat) (b1 : List Nat) (i : Int) : Bool := (z5n an bn b0 b1 big i).isSome
noncomputable def zco (an : Nat) (bn : Nat) (b0 : List Nat) (b1 : List Nat) (i : Int) : Bool := oL (z5n an bn b0 b1 big i)
noncomputable def zen (an : Nat) (bn : Nat) (b0 : List Nat) (b1 : List Nat) (i : Int) : Int := ((tR (z5n an bn b0 b1 big i)).getD default).1
noncomputable def zev (an : Nat) (bn : Nat) (b0 : List Nat) (b1 : List Nat) (i : Int) : Bool := ((tR (z5n an bn b0 b1 big i)).getD default).2
theorem zmv {an : Nat} {bn : Nat} {b0 : List Nat} {b1 : List Nat} {i : Int} {m : Nat} {r : Int × Bool} (hm : m = big) (h : z5n an bn b0 b1 m i = some (Sum.inr r)) : zda an bn b0 b1 i = true ∧ zco an bn b0 b1 i = false ∧ zen an bn b0 b1 i = r.1 ∧ zev an bn b0 b1 i = r.2 := by
  subst hm
  unfold zda zco zen zev
  rw [h]
  exact ⟨rfl, rfl, rfl, rfl⟩
noncomputable def z6o {R : Type} (t6 : Nat) (t7 : Nat) (t8 : Int) (kn_ : Nat → Int → Option R) (k0_ : Nat → Int → Bool → Option R) : Option R := (br (leI 1 t8) (kn_ (fop BinOp.sub FloatKind.f64 4607182418800017408 (fop BinOp.quo FloatKind.f64 (fop BinOp.mul FloatKind.f64 t6 t7) (fOI FloatKind.f64 (mulI IntKind.i64 (mulI IntKind.i64 2 t8) (addI IntKind.i64 (mulI IntKind.i64 2 t8) 1))))) (subI IntKind.i64 t8 1)) (k0_ t7 t8 (leI 1 t8)))
theorem zl1 {R R' : Type} (o : Option R → Option R') (h0 : o none = none) (t6 : Nat) (t7 : Nat) (t8 : Int) (kn_ : Nat → Int → Option R) (k0_ : Nat → Int → Bool → Option R) : z6o t6 t7 t8 (fun t7' t8' => o (kn_ t7' t8')) (fun c0_ c1_ c2_ => o (k0_ c0_ c1_ c2_)) = o (z6o t6 t7 t8 kn_ k0_) := by
  unfold z6o
  repeat (first | refine grd_out h0 ?_ | refine br_out ?_ ?_ | rfl | exact h0.symm)
noncomputable def z3g (t6 : Nat) : Nat → Nat → Int → Option ((Nat × Int × Bool))
  | 0, _, _ => none
  | n + 1, t7, t8 => z6o t6  t7 t8  (fun t7' t8' => z3g t6 n t7' t8') (fun c0_ c1_ c2_ => some (c0_, c1_, c2_))
theorem zhx (t6 : Nat) (n : Nat) (t7 : Nat) (t8 : Int) : z3g t6 (n + 1) t7 t8 = z6o t6  t7 t8  (fun t7' t8' => z3g t6 n t7' t8') (fun c0_ c1_ c2_ => some (c0_, c1_, c2_)) := rfl
noncomputable def z4r (t6 : Nat) (t7 : Nat) (t8 : Int) : Bool := (z3g t6 big t7 t8).isSome
noncomputable def z0v (t6 : Nat) (t7 : Nat) (t8 : Int) : Nat := ((z3g t6 big t7 t8).getD default).1
noncomputable def zdi (t6 : Nat) (t7 : Nat) (t8 : Int) : Int := ((z3g t6 big t7 t8).getD default).2.1
noncomputable def zdb (t6 : Nat) (t7 : Nat) (t8 : Int) : Bool := ((z3g t6 big t7 t8).getD default).2.2
theorem zly {t6 : Nat} {t7 : Nat} {t8 : Int} {m : Nat} {r : Nat × Int × Bool} (hm : m = big) (h : z3g t6 m t7 t8 = some r) : z4r t6 t7 t8 = true ∧ z0v t6 t7 t8 = r.1 ∧ zdi t6 t7 t8 = r.2.1 ∧ zdb t6 t7 t8 = r.2.2 := by
  subst hm
  unfold z4r z0v zdi zdb
  rw [h]
  exact ⟨rfl, rfl, rfl, rfl⟩
noncomputable def zbe {R : Type} (q29 : Nat) (k_ : Nat → Option R) : Option R := (grd (zkj q29) (br (fcmp BinOp.eql FloatKind.f64 (zd2 q29) 0) (br (fcmp BinOp.lss FloatKind.f64 (fop BinOp.sub FloatKind.f64 q29 0) 0) (k_ (fop BinOp.add FloatKind.f64 (fop BinOp.sub FloatKind.f64 q29 0) 4607182418800017408)) (k_ (fop BinOp.sub FloatKind.f64 q29 0))) (br (fcmp BinOp.lss FloatKind.f64 (fop BinOp.sub FloatKind.f64 q29 (zd2 q29)) 0) (k_ (fop BinOp.add FloatKind.f64 (fop BinOp.sub FloatKind.f64 q29 (zd2 q29)) 4607182418800017408)) (k_ (fop BinOp.sub FloatKind.f64 q29 (zd2 q29))))))
noncomputable def zb0 (q29 : Nat) : Option (Nat) := zbe q29 (fun c0_ => some c0_)
theorem zo6 {R R' : Type} (o : Option R → Option R') (h0 : o none = none) (q29 : Nat) (k_ : Nat → Option R) : zbe q29 (fun c0_ => o (k_ c0_)) = o (zbe q29 k_) := by
  unfold zbe
  repeat (first | refine grd_out h0 ?_ | refine br_out ?_ ?_ | rfl | exact h0.symm)
noncomputable def zh0 (q29 : Nat) : Bool := (zb0 q29).isSome
noncomputable def z0z (q29 : Nat) : Nat := ((zb0 q29).getD default)
theorem zq3 {q29 : Nat} {r : Nat} (h : zb0 q29 = some r) : zh0 q29 = true ∧ z0z q29 = r := by
  unfold zh0 z0z
  rw [h]
  exact ⟨rfl, rfl⟩
noncomputable def zc9 {R : Type} (q17 : Nat) (q1n : List Nat) (q1d : Nat) (q1p : List Nat) (q1g : Nat) (q1r : List Nat) (k_ : Nat → Nat → Nat → (List Nat) → (List Nat) → (List Nat) → Option R) : Option R := (grd (zbk q17 (pF q1n 0 (muN q17 1))) (grd (zbk q1d (pF q1p 0 (muN q1d 1))) (grd (zbk q1g (pF q1r 0 (muN q1g 1))) (k_ (zac q17 (pF q1n 0 (muN q17 1))) (zac q1d (pF q1p 0 (muN q1d 1))) (zac q1g (pF q1r 0 (muN q1g 1))) (zah q17 (pF q1n 0 (muN q17 1))) (zah q1d (pF q1p 0 (muN q1d 1))) (zah q1g (pF q1r 0 (muN q1g 1)))))))
noncomputable def z7i (q17 : Nat) (q1n : List Nat) (q1d : Nat) (q1p : List Nat) (q1g : Nat) (q1r : List Nat) : Option (Nat × Nat × Nat × (List Nat) × (List Nat) × (List Nat)) := zc9 q17 q1n q1d q1p q1g q1r (fun c0_ c1_ c2_ c3_ c4_ c5_ => some (c0_, c1_, c2_, c3_, c4_, c5_))
theorem zoy {R R' : Type} (o : Option R → Option R') (h0 : o none = none) (q17 : Nat) (q1n : List Nat) (q1d : Nat) (q1p : List Nat) (q1g : Nat) (q1r : List Nat) (k_ : Nat → Nat → Nat → (List Nat) → (List Nat) → (List Nat) → Option R) : zc9 q17 q1n q1d q1p q1g q1r (fun c0_ c1_ c2_ c3_ c4_ c5_ => o (k_ c0_ c1_ c2_ c3_ c4_ c5_)) = o (zc9 q17 q1n q1d q1p q1g q1r k_) := by
  unfold zc9
  repeat (first | refine grd_out h0 ?_ | refine br_out ?_ ?_ | rfl | exact h0.symm)
noncomputable def zi6 (q17 : Nat) (q1n : List Nat) (q1d : Nat) (q1p : List Nat) (q1g : Nat) (q1r : List Nat) : Bool := (z7i q17 q1n q1d q1p q1g q1r).isSome
noncomputable def zgp (q17 : Nat) (q1n : List Nat) (q1d : Nat) (q1p : List Nat) (q1g : Nat) (q1r : List Nat) : Nat := ((z7i q17 q1n q1d q1p q1g q1r).getD default).1
noncomputable def zgm (q17 : Nat) (q1n : List Nat) (q1d : Nat) (q1p : List Nat) (q1g : Nat) (q1r : List Nat) : Nat := ((z7i q17 q1n q1d q1p q1g q1r).getD default).2.1
noncomputable def zgt (q17 : Nat) (q1n : List Nat) (q1d : Nat) (q1p : List Nat) (q1g : Nat) (q1r : List Nat) : Nat := ((z7i q17 q1n q1d q1p q1g q1r).getD default).2.2.1
noncomputable def zgn (q17 : Nat) (q1n : List Nat) (q1d : Nat) (q1p : List Nat) (q1g : Nat) (q1r : List Nat) : List Nat := ((z7i q17 q1n q1d q1p q1g q1r).getD default).2.2.2.1
noncomputable def zgq (q17 : Nat) (q1n : List Nat) (q1d : Nat) (q1p : List Nat) (q1g : Nat) (q1r : List Nat) : List Nat := ((z7i q17 q1n q1d q1p q1g q1r).getD default).2.2.2.2.1
noncomputable def zgh (q17 : Nat) (q1n : List Nat) (q1d : Nat) (q1p : List Nat) (q1g : Nat) (q1r : List Nat) : List Nat := ((z7i q17 q1n q1d q1p q1g q1r).getD default).2.2.2.2.2
theorem zr8 {q17 : Nat} {q1n : List Nat} {q1d : Nat} {q1p : List Nat} {q1g : Nat} {q1r : List Nat} {r : Nat × Nat × Nat × (List Nat) × (List Nat) × (List Nat)} (h : z7i q17 q1n q1d q1p q1g q1r = some r) : zi6 q17 q1n q1d q1p q1g q1r = true ∧ zgp q17 q1n q1d q1p q1g q1r = r.1 ∧ zgm q17 q1n q1d q1p q1g q1r = r.2.1 ∧ zgt q17 q1n q1d q1p q1g q1r = r.2.2.1 ∧ zgn q17 q1n q1d q1p q1g q1r = r.2.2.2.1 ∧ zgq q17 q1n q1d q1p q1g q1r = r.2.2.2.2.1 ∧ zgh q17 q1n q1d q1p q1g q1r = r.2.2.2.2.2 := by
  unfold zi6 zgp zgm zgt zgn zgq zgh
  rw [h]
  exact ⟨rfl, rfl, rfl, rfl, rfl, rfl, rfl⟩
noncomputable def zbd {R : Type} (a_n : Nat) (a : List Nat) (k_ : Nat → (List Nat) → Option R) : Option R := (grd (okMk (Int.ofNat a_n) (Int.ofNat a_n) 12) (grd (zap a_n (toN (Int.ofNat a_n)) a 0 (rF (muN (toN (Int.ofNat a_n)) 3))) (k_ (toN (Int.ofNat a_n)) (z9k a_n (toN (Int.ofNat a_n)) a 0 (rF (muN (toN (Int.ofNat a_n)) 3))))))
noncomputable def z9o (a_n : Nat) (a : List Nat) : Option (Nat × (List Nat)) := zbd a_n a (fun c0_ c1_ => some (c0_, c1_))
theorem znc {R R' : Type} (o : Option R → Option R') (h0 : o none = none) (a_n : Nat) (a : List Nat) (k_ : Nat → (List Nat) → Option R) : zbd a_n a (fun c0_ c1_ => o (k_ c0_ c1_)) = o (zbd a_n a k_) := by
  unfold zbd
  repeat (first | refine grd_out h0 ?_ | refine br_out ?_ ?_ | rfl | exact h0.symm)
noncomputable def zgk (a_n : Nat) (a : List Nat) : Bool := (z9o a_n a).isSome
noncomputable def zfw (a_n : Nat) (a : List Nat) : Nat := ((z9o a_n a).getD default).1
noncomputable def zfm (a_n : Nat) (a : List Nat) : List Nat := ((z9o a_n a).getD default).2
theorem zqa {a_n : Nat} {a : List Nat} {r : Nat × (List Nat)} (h : z9o a_n a = some r) : zgk a_n a = true ∧ zfw a_n a = r.1 ∧ zfm a_n a = r.2 := by
  unfold zgk zfw zfm
  rw [h]
  exact ⟨rfl, rfl, rfl⟩
noncomputable def zb6 {R : Type} (a_n : Nat) (a : List Nat) (b_n : Nat) (b : List Nat) (k_ : Bool → Option R) : Option R := (br (neI (Int.ofNat a_n) (Int.ofNat b_n)) (k_ Bool.false) (grd (zda a_n b_n a b 0) (br (zco a_n b_n a b 0) (k_ Bool.false) (k_ Bool.true))))
noncomputable def zbl (a_n : Nat) (a : List Nat) (b_n : Nat) (b : List Nat) : Option (Bool) := zb6 a_n a b_n b (fun c0_ => some c0_)
theorem zo8 {R R' : Type} (o : Option R → Option R') (h0 : o none = none) (a_n : Nat) (a : List Nat) (b_n : Nat) (b : List Nat) (k_ : Bool → Option R) : zb6 a_n a b_n b (fun c0_ => o (k_ c0_)) = o (zb6 a_n a b_n b k_) := by
  unfold zb6
  repeat (first | refine grd_out h0 ?_ | refine br_out ?_ ?_ | rfl | exact h0.symm)
noncomputable def zbg (a_n : Nat) (a : List Nat) (b_n : Nat) (b : List Nat) : Bool := (zbl a_n a b_n b).isSome
noncomputable def zaa (a_n : Nat) (a : List Nat) (b_n : Nat) (b : List Nat) : Bool := ((zbl a_n a b_n b).getD default)
theorem zj9 {a_n : Nat} {a : List Nat} {b_n : Nat} {b : List Nat} {r : Bool} (h : zbl a_n a b_n b = some r) : zbg a_n a b_n b = true ∧ zaa a_n a b_n b = r := by
  unfold zbg zaa
  rw [h]
  exact ⟨rfl, rfl⟩
noncomputable def z8f {R : Type} (q16 : Nat) (k_ : Nat → Option R) : Option R := (br (fcmp BinOp.neq FloatKind.f64 (fop BinOp.sub FloatKind.f64 q16 q16) 0) (grd zkc (k_ zij)) (br (fcmp BinOp.geq FloatKind.f64 q16 4841369599423283200) (k_ 0) (br (fcmp BinOp.leq FloatKind.f64 q16 14064741636278059008) (k_ 0) (grd (f2iB FloatKind.f64 q16 IntKind.i64) (br (fcmp BinOp.lss FloatKind.f64 (fop BinOp.sub FloatKind.f64 q16 (fOI FloatKind.f64 (f2iV FloatKind.f64 q16 IntKind.i64))) 0) (br (fcmp BinOp.geq FloatKind.f64 (fop BinOp.add FloatKind.f64 (fop BinOp.sub FloatKind.f64 q16 (fOI FloatKind.f64 (f2iV FloatKind.f64 q16 IntKind.i64))) 4607182418800017408) 4602678819172646912) (br (fcmp BinOp.gtr FloatKind.f64 (fop BinOp.sub FloatKind.f64 (fop BinOp.add FloatKind.f64 (fop BinOp.sub FloatKind.f64 q16 (fOI FloatKind.f64 (f2iV FloatKind.f64 q16 IntKind.i64))) 4607182418800017408) 4602678819172646912) 4598175219545276416) (grd (z4r (fop BinOp.mul FloatKind.f64 (fop BinOp.mul FloatKind.f64 (fop BinOp.sub FloatKind.f64 4602678819172646912 (fop BinOp.sub FloatKind.f64 (fop BinOp.add FloatKind.f64 (fop BinOp.sub FloatKind.f64 q16 (fOI FloatKind.f64 (f2iV FloatKind.f64 q16 IntKind.i64))) 4607182418800017408) 4602678819172646912)) 4618760256179416344) (fop BinOp.mul FloatKind.f64 (fop BinOp.sub FloatKind.f64 4602678819172646912 (fop BinOp.sub FloatKind.f64 (fop BinOp.add FloatKind.f64 (fop BinOp.sub FloatKind.f64 q16 (fOI FloatKind.f64 (f2iV FloatKind.f64 q16 IntKind.i64))) 4607182418800017408) 4602678819172646912)) 4618760256179416344)) 4607182418800017408 8) (br (fcmp BinOp.geq FloatKind.f64 (fop BinOp.add FloatKind.f64 (fop BinOp.sub FloatKind.f64 q16 (fOI FloatKind.f64 (f2iV FloatKind.f64 q16 IntKind.i64))) 4607182418800017408) 4602678819172646912) (k_ (fneg FloatKind.f64 (fop BinOp.mul FloatKind.f64 (fop BinOp.mul FloatKind.f64 (fop BinOp.sub FloatKind.f64 4602678819172646912 (fop BinOp.sub FloatKind.f64 (fop BinOp.add FloatKind.f64 (fop BinOp.sub FloatKind.f64 q16 (fOI FloatKind.f64 (f2iV FloatKind.f64 q16 IntKind.i64))) 4607182418800017408) 4602678819172646912)) 4618760256179416344) (z0v (fop BinOp.mul FloatKind.f64 (fop BinOp.mul FloatKind.f64 (fop BinOp.sub FloatKind.f64 4602678819172646912 (fop BinOp.sub FloatKind.f64 (fop BinOp.add FloatKind.f64 (fop BinOp.sub FloatKind.f64 q16 (fOI FloatKind.f64 (f2iV FloatKind.f64 q16 IntKind.i64))) 4607182418800017408) 4602678819172646912)) 4618760256179416344) (fop BinOp.mul FloatKind.f64 (fop BinOp.sub FloatKind.f64 4602678819172646912 (fop BinOp.sub FloatKind.f64 (fop BinOp.add FloatKind.f64 (fop BinOp.sub FloatKind.f64 q16 (fOI FloatKind.f64 (f2iV FloatKind.f64 q16 IntKind.i64))) 4607182418800017408) 4602678819172646912)) 4618760256179416344)) 4607182418800017408 8)))) (k_ (fop BinOp.mul FloatKind.f64 (fop BinOp.mul FloatKind.f64 (fop BinOp.sub FloatKind.f64 4602678819172646912 (fop BinOp.sub FloatKind.f64 (fop BinOp.add FloatKind.f64 (fop BinOp.sub FloatKind.f64 q16 (fOI FloatKind.f64 (f2iV FloatKind.f64 q16 IntKind.i64))) 4607182418800017408) 4602678819172646912)) 4618760256179416344) (z0v (fop BinOp.mul FloatKind.f64 (fop BinOp.mul FloatKind.f64 (fop BinOp.sub FloatKind.f64 4602678819172646912 (fop BinOp.sub FloatKind.f64 (fop BinOp.add FloatKind.f64 (fop BinOp.sub FloatKind.f64 q16 (fOI FloatKind.f64 (f2iV FloatKind.f64 q16 IntKind.i64))) 4607182418800017408) 4602678819172646912)) 4618760256179416344) (fop BinOp.mul FloatKind.f64 (fop BinOp.sub FloatKind.f64 4602678819172646912 (fop BinOp.sub FloatKind.f64 (fop BinOp.add FloatKind.f64 (fop BinOp.sub FloatKind.f64 q16 (fOI FloatKind.f64 (f2iV FloatKind.f64 q16 IntKind.i64))) 4607182418800017408) 4602678819172646912)) 4618760256179416344)) 4607182418800017408 8))))) (grd (z4r (fop BinOp.mul FloatKind.f64 (fop BinOp.mul FloatKind.f64 (fop BinOp.sub FloatKind.f64 (fop BinOp.add FloatKind.f64 (fop BinOp.sub FloatKind.f64 q16 (fOI FloatKind.f64 (f2iV FloatKind.f64 q16 IntKind.i64))) 4607182418800017408) 4602678819172646912) 4618760256179416344) (fop BinOp.mul FloatKind.f64 (fop BinOp.sub FloatKind.f64 (fop BinOp.add FloatKind.f64 (fop BinOp.sub FloatKind.f64 q16 (fOI FloatKind.f64 (f2iV FloatKind.f64 q16 IntKind.i64))) 4607182418800017408) 4602678819172646912) 4618760256179416344)) 4607182418800017408 8) (br (fcmp BinOp.geq FloatKind.f64 (fop BinOp.add FloatKind.f64 (fop BinOp.sub FloatKind.f64 q16 (fOI FloatKind.f64 (f2iV FloatKind.f64 q16 IntKind.i64))) 4607182418800017408) 4602678819172646912) (k_ (fneg FloatKind.f64 (fop BinOp.mul FloatKind.f64 (fop BinOp.mul FloatKind.f64 (fop BinOp.sub FloatKind.f64 (fop BinOp.add FloatKind.f64 (fop BinOp.sub FloatKind.f64 q16 (fOI FloatKind.f64 (f2iV FloatKind.f64 q16 IntKind.i64))) 4607182418800017408) 4602678819172646912) 4618760256179416344) (z0v (fop BinOp.mul FloatKind.f64 (fop BinOp.mul FloatKind.f64 (fop BinOp.sub FloatKind.f64 (fop BinOp.add FloatKind.f64 (fop BinOp.sub FloatKind.f64 q16 (fOI FloatKind.f64 (f2iV FloatKind.f64 q16 IntKind.i64))) 4607182418800017408) 4602678819172646912) 4618760256179416344) (fop BinOp.mul FloatKind.f64 (fop BinOp.sub FloatKind.f64 (fop BinOp.add FloatKind.f64 (fop BinOp.sub FloatKind.f64 q16 (fOI FloatKind.f64 (f2iV FloatKind.f64 q16 IntKind.i64))) 4607182418800017408) 4602678819172646912) 4618760256179416344)) 4607182418800017408 8)))) (k_ (fop BinOp.mul FloatKind.f64 (fop BinOp.mul FloatKind.f64 (fop BinOp.sub FloatKind.f64 (fop BinOp.add FloatKind.f64 (fop BinOp.sub FloatKind.f64 q16 (fOI FloatKind.f64 (f2iV FloatKind.f64 q16 IntKind.i64))) 4607182418800017408) 4602678819172646912) 4618760256179416344) (z0v (fop BinOp.mul FloatKind.f64 (fop BinOp.mul FloatKind.f64 (fop BinOp.sub FloatKind.f64 (fop BinOp.add FloatKind.f64 (fop BinOp.sub FloatKind.f64 q16 (fOI FloatKind.f64 (f2iV FloatKind.f64 q16 IntKind.i64))) 4607182418800017408) 4602678819172646912) 4618760256179416344) (fop BinOp.mul FloatKind.f64 (fop BinOp.sub FloatKind.f64 (fop BinOp.add FloatKind.f64 (fop BinOp.sub FloatKind.f64 q16 (fOI FloatKind.f64 (f2iV FloatKind.f64 q16 IntKind.i64))) 4607182418800017408) 4602678819172646912) 4618760256179416344)) 4607182418800017408 8)))))) (br (fcmp BinOp.gtr FloatKind.f64 (fop BinOp.add FloatKind.f64 (fop BinOp.sub FloatKind.f64 q16 (fOI FloatKind.f64 (f2iV FloatKind.f64 q16 IntKind.i64))) 4607182418800017408) 4598175219545276416) (grd (z4r (fop BinOp.mul FloatKind.f64 (fop BinOp.mul FloatKind.f64 (fop BinOp.sub FloatKind.f64 4602678819172646912 (fop BinOp.add FloatKind.f64 (fop BinOp.sub FloatKind.f64 q16 (fOI FloatKind.f64 (f2iV FloatKind.f64 q16 IntKind.i64))) 4607182418800017408)) 4618760256179416344) (fop BinOp.mul FloatKind.f64 (fop BinOp.sub FloatKind.f64 4602678819172646912 (fop BinOp.add FloatKind.f64 (fop BinOp.sub FloatKind.f64 q16 (fOI FloatKind.f64 (f2iV FloatKind.f64 q16 IntKind.i64))) 4607182418800017408)) 4618760256179416344)) 4607182418800017408 8) (br (fcmp BinOp.geq FloatKind.f64 (fop BinOp.add FloatKind.f64 (fop BinOp.sub FloatKind.f64 q16 (fOI FloatKind.f64 (f2iV FloatKind.f64 q16 IntKind.i64))) 4607182418800017408) 4602678819172646912) (k_ (fneg FloatKind.f64 (fop BinOp.mul FloatKind.f64 (fop BinOp.mul FloatKind.f64 (fop BinOp.sub FloatKind.f64 4602678819172646912 (fop BinOp.add FloatKind.f64 (fop BinOp.sub FloatKind.f64 q16 (fOI FloatKind.f64 (f2iV FloatKind.f64 q16 IntKind.i64))) 4607182418800017408)) 4618760256179416344) (z0v (fop BinOp.mul FloatKind.f64 (fop BinOp.mul FloatKind.f64 (fop BinOp.sub FloatKind.f64 4602678819172646912 (fop BinOp.add FloatKind.f64 (fop BinOp.sub FloatKind.f64 q16 (fOI FloatKind.f64 (f2iV FloatKind.f64 q16 IntKind.i64))) 4607182418800017408)) 4618760256179416344) (fop BinOp.mul FloatKind.f64 (fop BinOp.sub FloatKind.f64 4602678819172646912 (fop BinOp.add FloatKind.f64 (fop BinOp.sub FloatKind.f64 q16 (fOI FloatKind.f64 (f2iV FloatKind.f64 q16 IntKind.i64))) 4607182418800017408)) 4618760256179416344)) 4607182418800017408 8)))) (k_ (fop BinOp.mul FloatKind.f64 (fop BinOp.mul FloatKind.f64 (fop BinOp.sub FloatKind.f64 4602678819172646912 (fop BinOp.add FloatKind.f64 (fop BinOp.sub FloatKind.f64 q16 (fOI FloatKind.f64 (f2iV FloatKind.f64 q16 IntKind.i64))) 4607182418800017408)) 4618760256179416344) (z0v (fop BinOp.mul FloatKind.f64 (fop BinOp.mul FloatKind.f64 (fop BinOp.sub FloatKind.f64 4602678819172646912 (fop BinOp.add FloatKind.f64 (fop BinOp.sub FloatKind.f64 q16 (fOI FloatKind.f64 (f2iV FloatKind.f64 q16 IntKind.i64))) 4607182418800017408)) 4618760256179416344) (fop BinOp.mul FloatKind.f64 (fop BinOp.sub FloatKind.f64 4602678819172646912 (fop BinOp.add FloatKind.f64 (fop BinOp.sub FloatKind.f64 q16 (fOI FloatKind.f64 (f2iV FloatKind.f64 q16 IntKind.i64))) 4607182418800017408)) 4618760256179416344)) 4607182418800017408 8))))) (grd (z4r (fop BinOp.mul FloatKind.f64 (fop BinOp.mul FloatKind.f64 (fop BinOp.add FloatKind.f64 (fop BinOp.sub FloatKind.f64 q16 (fOI FloatKind.f64 (f2iV FloatKind.f64 q16 IntKind.i64))) 4607182418800017408) 4618760256179416344) (fop BinOp.mul FloatKind.f64 (fop BinOp.add FloatKind.f64 (fop BinOp.sub FloatKind.f64 q16 (fOI FloatKind.f64 (f2iV FloatKind.f64 q16 IntKind.i64))) 4607182418800017408) 4618760256179416344)) 4607182418800017408 8) (br (fcmp BinOp.geq FloatKind.f64 (fop BinOp.add FloatKind.f64 (fop BinOp.sub FloatKind.f64 q16 (fOI FloatKind.f64 (f2iV FloatKind.f64 q16 IntKind.i64))) 4607182418800017408) 4602678819172646912) (k_ (fneg FloatKind.f64 (fop BinOp.mul FloatKind.f64 (fop BinOp.mul FloatKind.f64 (fop BinOp.add FloatKind.f64 (fop BinOp.sub FloatKind.f64 q16 (fOI FloatKind.f64 (f2iV FloatKind.f64 q16 IntKind.i64))) 4607182418800017408) 4618760256179416344) (z0v (fop BinOp.mul FloatKind.f64 (fop BinOp.mul FloatKind.f64 (fop BinOp.add FloatKind.f64 (fop BinOp.sub FloatKind.f64 q16 (fOI FloatKind.f64 (f2iV FloatKind.f64 q16 IntKind.i64))) 4607182418800017408) 4618760256179416344) (fop BinOp.mul FloatKind.f64 (fop BinOp.add FloatKind.f64 (fop BinOp.sub FloatKind.f64 q16 (fOI FloatKind.f64 (f2iV FloatKind.f64 q16 IntKind.i64))) 4607182418800017408) 4618760256179416344)) 4607182418800017408 8)))) (k_ (fop BinOp.mul FloatKind.f64 (fop BinOp.mul FloatKind.f64 (fop BinOp.add FloatKind.f64 (fop BinOp.sub FloatKind.f64 q16 (fOI FloatKind.f64 (f2iV FloatKind.f64 q16 IntKind.i64))) 4607182418800017408) 4618760256179416344) (z0v (fop BinOp.mul FloatKind.f64 (fop BinOp.mul FloatKind.f64 (fop BinOp.add FloatKind.f64 (fop BinOp.sub FloatKind.f64 q16 (fOI FloatKind.f64 (f2iV FloatKind.f64 q16 IntKind.i64))) 4607182418800017408) 4618760256179416344) (fop BinOp.mul FloatKind.f64 (fop BinOp.add FloatKind.f64 (fop BinOp.sub FloatKind.f64 q16 (fOI FloatKind.f64 (f2iV FloatKind.f64 q16 IntKind.i64))) 4607182418800017408) 4618760256179416344)) 4607182418800017408 8))))))) (br (fcmp BinOp.geq FloatKind.f64 (fop BinOp.sub FloatKind.f64 q16 (fOI FloatKind.f64 (f2iV FloatKind.f64 q16 IntKind.i64))) 4602678819172646912) (br (fcmp BinOp.gtr FloatKind.f64 (fop BinOp.sub FloatKind.f64 (fop BinOp.sub FloatKind.f64 q16 (fOI FloatKind.f64 (f2iV FloatKind.f64 q16 IntKind.i64))) 4602678819172646912) 4598175219545276416) (grd (z4r (fop BinOp.mul FloatKind.f64 (fop BinOp.mul FloatKind.f64 (fop BinOp.sub FloatKind.f64 4602678819172646912 (fop BinOp.sub FloatKind.f64 (fop BinOp.sub FloatKind.f64 q16 (fOI FloatKind.f64 (f2iV FloatKind.f64 q16 IntKind.i64))) 4602678819172646912)) 4618760256179416344) (fop BinOp.mul FloatKind.f64 (fop BinOp.sub FloatKind.f64 4602678819172646912 (fop BinOp.sub FloatKind.f64 (fop BinOp.sub FloatKind.f64 q16 (fOI FloatKind.f64 (f2iV FloatKind.f64 q16 IntKind.i64))) 4602678819172646912)) 4618760256179416344)) 4607182418800017408 8) (br (fcmp BinOp.geq FloatKind.f64 (fop BinOp.sub FloatKind.f64 q16 (fOI FloatKind.f64 (f2iV FloatKind.f64 q16 IntKind.i64))) 4602678819172646912) (k_ (fneg FloatKind.f64 (fop BinOp.mul FloatKind.f64 (fop BinOp.mul FloatKind.f64 (fop BinOp.sub FloatKind.f64 4602678819172646912 (fop BinOp.sub FloatKind.f64 (fop BinOp.sub FloatKind.f64 q16 (fOI FloatKind.f64 (f2iV FloatKind.f64 q16 IntKind.i64))) 4602678819172646912)) 4618760256179416344) (z0v (fop BinOp.mul FloatKind.f64 (fop BinOp.mul FloatKind.f64 (fop BinOp.sub FloatKind.f64 4602678819172646912 (fop BinOp.sub FloatKind.f64 (fop BinOp.sub FloatKind.f64 q16 (fOI FloatKind.f64 (f2iV FloatKind.f64 q16 IntKind.i64))) 4602678819172646912)) 4618760256179416344) (fop BinOp.mul FloatKind.f64 (fop BinOp.sub FloatKind.f64 4602678819172646912 (fop BinOp.sub FloatKind.f64 (fop BinOp.sub FloatKind.f64 q16 (fOI FloatKind.f64 (f2iV FloatKind.f64 q16 IntKind.i64))) 4602678819172646912)) 4618760256179416344)) 4607182418800017408 8)))) (k_ (fop BinOp.mul FloatKind.f64 (fop BinOp.mul FloatKind.f64 (fop BinOp.sub FloatKind.f64 4602678819172646912 (fop BinOp.sub FloatKind.f64 (fop BinOp.sub FloatKind.f64 q16 (fOI FloatKind.f64 (f2iV FloatKind.f64 q16 IntKind.i64))) 4602678819172646912)) 4618760256179416344) (z0v (fop BinOp.mul FloatKind.f64 (fop BinOp.mul FloatKind.f64 (fop BinOp.sub FloatKind.f64 4602678819172646912 (fop BinOp.sub FloatKind.f64 (fop BinOp.sub FloatKind.f64 q16 (fOI FloatKind.f64 (f2iV FloatKind.f64 q16 IntKind.i64))) 4602678819172646912)) 4618760256179416344) (fop BinOp.mul FloatKind.f64 (fop BinOp.sub FloatKind.f64 4602678819172646912 (fop BinOp.sub FloatKind.f64 (fop BinOp.sub FloatKind.f64 q16 (fOI FloatKind.f64 (f2iV FloatKind.f64 q16 IntKind.i64))) 4602678819172646912)) 4618760256179416344)) 4607182418800017408 8))))) (grd (z4r (fop BinOp.mul FloatKind.f64 (fop BinOp.mul FloatKind.f64 (fop BinOp.sub FloatKind.f64 (fop BinOp.sub FloatKind.f64 q16 (fOI FloatKind.f64 (f2iV FloatKind.f64 q16 IntKind.i64))) 4602678819172646912) 4618760256179416344) (fop BinOp.mul FloatKind.f64 (fop BinOp.sub FloatKind.f64 (fop BinOp.sub FloatKind.f64 q16 (fOI FloatKind.f64 (f2iV FloatKind.f64 q16 IntKind.i64))) 4602678819172646912) 4618760256179416344)) 4607182418800017408 8) (br (fcmp BinOp.geq FloatKind.f64 (fop BinOp.sub FloatKind.f64 q16 (fOI FloatKind.f64 (f2iV FloatKind.f64 q16 IntKind.i64))) 4602678819172646912) (k_ (fneg FloatKind.f64 (fop BinOp.mul FloatKind.f64 (fop BinOp.mul FloatKind.f64 (fop BinOp.sub FloatKind.f64 (fop BinOp.sub FloatKind.f64 q16 (fOI FloatKind.f64 (f2iV FloatKind.f64 q16 IntKind.i64))) 4602678819172646912) 4618760256179416344) (z0v (fop BinOp.mul FloatKind.f64 (fop BinOp.mul FloatKind.f64 (fop BinOp.sub FloatKind.f64 (fop BinOp.sub FloatKind.f64 q16 (fOI FloatKind.f64 (f2iV FloatKind.f64 q16 IntKind.i64))) 4602678819172646912) 4618760256179416344) (fop BinOp.mul FloatKind.f64 (fop BinOp.sub FloatKind.f64 (fop BinOp.sub FloatKind.f64 q16 (fOI FloatKind.f64 (f2iV FloatKind.f64 q16 IntKind.i64))) 4602678819172646912) 4618760256179416344)) 4607182418800017408 8)))) (k_ (fop BinOp.mul FloatKind.f64 (fop BinOp.mul FloatKind.f64 (fop BinOp.sub FloatKind.f64 (fop BinOp.sub FloatKind.f64 q16 (fOI FloatKind.f64 (f2iV FloatKind.f64 q16 IntKind.i64))) 4602678819172646912) 4618760256179416344) (z0v (fop BinOp.mul FloatKind.f64 (fop BinOp.mul FloatKind.f64 (fop BinOp.sub FloatKind.f64 (fop BinOp.sub FloatKind.f64 q16 (fOI FloatKind.f64 (f2iV FloatKind.f64 q16 IntKind.i64))) 4602678819172646912) 4618760256179416344) (fop BinOp.mul FloatKind.f64 (fop BinOp.sub FloatKind.f64 (fop BinOp.sub FloatKind.f64 q16 (fOI FloatKind.f64 (f2iV FloatKind.f64 q16 IntKind.i64))) 4602678819172646912) 4618760256179416344)) 4607182418800017408 8)))))) (br (fcmp BinOp.gtr FloatKind.f64 (fop BinOp.sub FloatKind.f64 q16 (fOI FloatKind.f64 (f2iV FloatKind.f64 q16 IntKind.i64))) 4598175219545276416) (grd (z4r (fop BinOp.mul FloatKind.f64 (fop BinOp.mul FloatKind.f64 (fop BinOp.sub FloatKind.f64 4602678819172646912 (fop BinOp.sub FloatKind.f64 q16 (fOI FloatKind.f64 (f2iV FloatKind.f64 q16 IntKind.i64)))) 4618760256179416344) (fop BinOp.mul FloatKind.f64 (fop BinOp.sub FloatKind.f64 4602678819172646912 (fop BinOp.sub FloatKind.f64 q16 (fOI FloatKind.f64 (f2iV FloatKind.f64 q16 IntKind.i64)))) 4618760256179416344)) 4607182418800017408 8) (br (fcmp BinOp.geq FloatKind.f64 (fop BinOp.sub FloatKind.f64 q16 (fOI FloatKind.f64 (f2iV FloatKind.f64 q16 IntKind.i64))) 4602678819172646912) (k_ (fneg FloatKind.f64 (fop BinOp.mul FloatKind.f64 (fop BinOp.mul FloatKind.f64 (fop BinOp.sub FloatKind.f64 4602678819172646912 (fop BinOp.sub FloatKind.f64 q16 (fOI FloatKind.f64 (f2iV FloatKind.f64 q16 IntKind.i64)))) 4618760256179416344) (z0v (fop BinOp.mul FloatKind.f64 (fop BinOp.mul FloatKind.f64 (fop BinOp.sub FloatKind.f64 4602678819172646912 (fop BinOp.sub FloatKind.f64 q16 (fOI FloatKind.f64 (f2iV FloatKind.f64 q16 IntKind.i64)))) 4618760256179416344) (fop BinOp.mul FloatKind.f64 (fop BinOp.sub FloatKind.f64 4602678819172646912 (fop BinOp.sub FloatKind.f64 q16 (fOI FloatKind.f64 (f2iV FloatKind.f64 q16 IntKind.i64)))) 4618760256179416344)) 4607182418800017408 8)))) (k_ (fop BinOp.mul FloatKind.f64 (fop BinOp.mul FloatKind.f64 (fop BinOp.sub FloatKind.f64 4602678819172646912 (fop BinOp.sub FloatKind.f64 q16 (fOI FloatKind.f64 (f2iV FloatKind.f64 q16 IntKind.i64)))) 4618760256179416344) (z0v (fop BinOp.mul FloatKind.f64 (fop BinOp.mul FloatKind.f64 (fop BinOp.sub FloatKind.f64 4602678819172646912 (fop BinOp.sub FloatKind.f64 q16 (fOI FloatKind.f64 (f2iV FloatKind.f64 q16 IntKind.i64)))) 4618760256179416344) (fop BinOp.mul FloatKind.f64 (fop BinOp.sub FloatKind.f64 4602678819172646912 (fop BinOp.sub FloatKind.f64 q16 (fOI FloatKind.f64 (f2iV FloatKind.f64 q16 IntKind.i64)))) 4618760256179416344)) 4607182418800017408 8))))) (grd (z4r (fop BinOp.mul FloatKind.f64 (fop BinOp.mul FloatKind.f64 (fop BinOp.sub FloatKind.f64 q16 (fOI FloatKind.f64 (f2iV FloatKind.f64 q16 IntKind.i64))) 4618760256179416344) (fop BinOp.mul FloatKind.f64 (fop BinOp.sub FloatKind.f64 q16 (fOI FloatKind.f64 (f2iV FloatKind.f64 q16 IntKind.i64))) 4618760256179416344)) 4607182418800017408 8) (br (fcmp BinOp.geq FloatKind.f64 (fop BinOp.sub FloatKind.f64 q16 (fOI FloatKind.f64 (f2iV FloatKind.f64 q16 IntKind.i64))) 4602678819172646912) (k_ (fneg FloatKind.f64 (fop BinOp.mul FloatKind.f64 (fop BinOp.mul FloatKind.f64 (fop BinOp.sub FloatKind.f64 q16 (fOI FloatKind.f64 (f2iV FloatKind.f64 q16 IntKind.i64))) 4618760256179416344) (z0v (fop BinOp.mul FloatKind.f64 (fop BinOp.mul FloatKind.f64 (fop BinOp.sub FloatKind.f64 q16 (fOI FloatKind.f64 (f2iV FloatKind.f64 q16 IntKind.i64))) 4618760256179416344) (fop BinOp.mul FloatKind.f64 (fop BinOp.sub FloatKind.f64 q16 (fOI FloatKind.f64 (f2iV FloatKind.f64 q16 IntKind.i64))) 4618760256179416344)) 4607182418800017408 8)))) (k_ (fop BinOp.mul FloatKind.f64 (fop BinOp.mul FloatKind.f64 (fop BinOp.sub FloatKind.f64 q16 (fOI FloatKind.f64 (f2iV FloatKind.f64 q16 IntKind.i64))) 4618760256179416344) (z0v (fop BinOp.mul FloatKind.f64 (fop BinOp.mul FloatKind.f64 (fop BinOp.sub FloatKind.f64 q16 (fOI FloatKind.f64 (f2iV FloatKind.f64 q16 IntKind.i64))) 4618760256179416344) (fop BinOp.mul FloatKind.f64 (fop BinOp.sub FloatKind.f64 q16 (fOI FloatKind.f64 (f2iV FloatKind.f64 q16 IntKind.i64))) 4618760256179416344)) 4607182418800017408 8))))))))))))
noncomputable def z7y (q16 : Nat) : Option (Nat) := z8f q16 (fun c0_ => some c0_)
theorem zmz {R R' : Type} (o : Option R → Option R') (h0 : o none = none) (q16 : Nat) (k_ : Nat → Option R) : z8f q16 (fun c0_ => o (k_ c0_)) = o (z8f q16 k_) := by
  unfold z8f
  repeat (first | refine grd_out h0 ?_ | refine br_out ?_ ?_ | rfl | exact h0.symm)
noncomputable def zfk (q16 : Nat) : Bool := (z7y q16).isSome
noncomputable def zbr (q16 : Nat) : Nat := ((z7y q16).getD default)
theorem zpt {q16 : Nat} {r : Nat} (h : z7y q16 = some r) : zfk q16 = true ∧ zbr q16 = r := by
  unfold zfk zbr
  rw [h]
  exact ⟨rfl, rfl⟩
noncomputable def z7b {R : Type} (an : Nat) (bn : Nat) (b0 : List Nat) (b1 : List Nat) (i : Int) (kn_ : Int → Option R) (k0_ : Unit → Option R) (k1_ : Int → Bool → Option R) : Option R := (br (ltI i (Int.ofNat an)) (grd (okIx i an) (grd (okIx i bn) (grd (zi4 (gF b0 (ixO 0 i 3)) (gF b0 (Nat.succ (ixO 0 i 3))) (gF b0 (Nat.succ (Nat.succ (ixO 0 i 3)))) (gF b1 (ixO 0 i 3)) (gF b1 (Nat.succ (ixO 0 i 3))) (gF b1 (Nat.succ (Nat.succ (ixO 0 i 3))))) (br (bnot (zgl (gF b0 (ixO 0 i 3)) (gF b0 (Nat.succ (ixO 0 i 3))) (gF b0 (Nat.succ (Nat.succ (ixO 0 i 3)))) (gF b1 (ixO 0 i 3)) (gF b1 (Nat.succ (ixO 0 i 3))) (gF b1 (Nat.succ (Nat.succ (ixO 0 i 3)))))) (k0_ ()) (kn_ (addI IntKind.i64 i 1)))))) (k1_ i (ltI i (Int.ofNat an))))
theorem zm3 {R R' : Type} (o : Option R → Option R') (h0 : o none = none) (an : Nat) (bn : Nat) (b0 : List Nat) (b1 : List Nat) (i : Int) (kn_ : Int → Option R) (k0_ : Unit → Option R) (k1_ : Int → Bool → Option R) : z7b an bn b0 b1 i (fun i' => o (kn_ i')) (fun _ => o (k0_ ())) (fun c0_ c1_ => o (k1_ c0_ c1_)) = o (z7b an bn b0 b1 i kn_ k0_ k1_) := by
  unfold z7b
  repeat (first | refine grd_out h0 ?_ | refine br_out ?_ ?_ | rfl | exact h0.symm)
noncomputable def z5m (an : Nat) (bn : Nat) (b0 : List Nat) (b1 : List Nat) : Nat → Int → Option ((Unit) ⊕ (Int × Bool))
  | 0, _ => none
  | n + 1, i => z7b an bn b0 b1  i  (fun i' => z5m an bn b0 b1 n i') (fun _ => some (Sum.inl ())) (fun c0_ c1_ => some (Sum.inr (c0_, c1_)))
theorem ziu (an : Nat) (bn : Nat) (b0 : List Nat) (b1 : List Nat) (n : Nat) (i : Int) : z5m an bn b0 b1 (n + 1) i = z7b an bn b0 b1  i  (fun i' => z5m an bn b0 b1 n i') (fun _ => some (Sum.inl ())) (fun c0_ c1_ => some (Sum.inr (c0_, c1_))) := rfl
noncomputable def zaw (an : Nat) (bn : Nat) (b0 : List Nat) (b1 : List Nat) (i : Int) : Bool := (z5m an bn b0 b1 big i).isSome
noncomputable def zam (an : Nat) (bn : Nat) (b0 : List Nat) (b1 : List Nat) (i : Int) : Bool := oL (z5m an bn b0 b1 big i)
noncomputable def zel (an : Nat) (bn : Nat) (b0 : List Nat) (b1 : List Nat) (i : Int) : Int := ((tR (z5m an bn b0 b1 big i)).getD default).1
noncomputable def zer (an : Nat) (bn : Nat) (b0 : List Nat) (b1 : List Nat) (i : Int) : Bool := ((tR (z5m an bn b0 b1 big i)).getD default).2
theorem zn1 {an : Nat} {bn : Nat} {b0 : List Nat} {b1 : List Nat} {i : Int} {m : Nat} {r : Int × Bool} (hm : m = big) (h : z5m an bn b0 b1 m i = some (Sum.inr r)) : zaw an bn b0 b1 i = true ∧ zam an bn b0 b1 i = false ∧ zel an bn b0 b1 i = r.1 ∧ zer an bn b0 b1 i = r.2 := by
  subst hm
  unfold zaw zam zel zer
  rw [h]
  exact ⟨rfl, rfl, rfl, rfl⟩
noncomputable def z1q {R : Type} (sn : Nat) (t7 : Int) (b0 : List Nat) (t8 : Int) (kn_ : Int → Option R) (k0_ : Int → Option R) (k1_ : Int → Bool → Option R) : Option R := (br (ltI t8 t7) (grd (okIx t8 sn) (grd (zfx (gF b0 (ixO 0 t8 1))) (br (zeg (gF b0 (ixO 0 t8 1))) (k0_ t8) (kn_ (addI IntKind.i64 t8 1))))) (k1_ t8 (ltI t8 t7)))
theorem zes {R R' : Type} (o : Option R → Option R') (h0 : o none = none) (sn : Nat) (t7 : Int) (b0 : List Nat) (t8 : Int) (kn_ : Int → Option R) (k0_ : Int → Option R) (k1_ : Int → Bool → Option R) : z1q sn t7 b0 t8 (fun t8' => o (kn_ t8')) (fun c0_ => o (k0_ c0_)) (fun c0_ c1_ => o (k1_ c0_ c1_)) = o (z1q sn t7 b0 t8 kn_ k0_ k1_) := by
  unfold z1q
  repeat (first | refine grd_out h0 ?_ | refine br_out ?_ ?_ | rfl | exact h0.symm)
noncomputable def z0o (sn : Nat) (t7 : Int) (b0 : List Nat) : Nat → Int → Option ((Int) ⊕ (Int × Bool))
  | 0, _ => none
  | n + 1, t8 => z1q sn t7 b0  t8  (fun t8' => z0o sn t7 b0 n t8') (fun c0_ => some (Sum.inl c0_)) (fun c0_ c1_ => some (Sum.inr (c0_, c1_)))
theorem z9a (sn : Nat) (t7 : Int) (b0 : List Nat) (n : Nat) (t8 : Int) : z0o sn t7 b0 (n + 1) t8 = z1q sn t7 b0  t8  (fun t8' => z0o sn t7 b0 n t8') (fun c0_ => some (Sum.inl c0_)) (fun c0_ c1_ => some (Sum.inr (c0_, c1_))) := rfl
noncomputable def z4b (sn : Nat) (t7 : Int) (b0 : List Nat) (t8 : Int) : Bool := (z0o sn t7 b0 big t8).isSome
noncomputable def z47 (sn : Nat) (t7 : Int) (b0 : List Nat) (t8 : Int) : Bool := oL (z0o sn t7 b0 big t8)
noncomputable def z6g (sn : Nat) (t7 : Int) (b0 : List Nat) (t8 : Int) : Int := ((tL (z0o sn t7 b0 big t8)).getD default)
noncomputable def z80 (sn : Nat) (t7 : Int) (b0 : List Nat) (t8 : Int) : Int := ((tR (z0o sn t7 b0 big t8)).getD default).1
noncomputable def z7z (sn : Nat) (t7 : Int) (b0 : List Nat) (t8 : Int) : Bool := ((tR (z0o sn t7 b0 big t8)).getD default).2
theorem zg6 {sn : Nat} {t7 : Int} {b0 : List Nat} {t8 : Int} {m : Nat} {r : Int} (hm : m = big) (h : z0o sn t7 b0 m t8 = some (Sum.inl r)) : z4b sn t7 b0 t8 = true ∧ z47 sn t7 b0 t8 = true ∧ z6g sn t7 b0 t8 = r := by
  subst hm
  unfold z4b z47 z6g
  rw [h]
  exact ⟨rfl, rfl, rfl⟩
theorem zg5 {sn : Nat} {t7 : Int} {b0 : List Nat} {t8 : Int} {m : Nat} {r : Int × Bool} (hm : m = big) (h : z0o sn t7 b0 m t8 = some (Sum.inr r)) : z4b sn t7 b0 t8 = true ∧ z47 sn t7 b0 t8 = false ∧ z80 sn t7 b0 t8 = r.1 ∧ z7z sn t7 b0 t8 = r.2 := by
  subst hm
  unfold z4b z47 z80 z7z
  rw [h]
  exact ⟨rfl, rfl, rfl, rfl⟩
noncomputable def z1c {R : Type} (sn : Nat) (t7 : Int) (b0 : List Nat) (t8 : Int) (kn_ : Int → Option R) (k0_ : Int → Option R) (k1_ : Int → Bool → Option R) : Option R := (br (ltI t8 t7) (grd (okIx t8 sn) (grd (zdf (gF b0 (ixO 0 t8 1))) (br (zcy (gF b0 (ixO 0 t8 1))) (k0_ t8) (kn_ (addI IntKind.i64 t8 1))))) (k1_ t8 (ltI t8 t7)))
theorem ze7 {R R' : Type} (o : Option R → Option R') (h0 : o none = none) (sn : Nat) (t7 : Int) (b0 : List Nat) (t8 : Int) (kn_ : Int → Option R) (k0_ : Int → Option R) (k1_ : Int → Bool → Option R) : z1c sn t7 b0 t8 (fun t8' => o (kn_ t8')) (fun c0_ => o (k0_ c0_)) (fun c0_ c1_ => o (k1_ c0_ c1_)) = o (z1c sn t7 b0 t8 kn_ k0_ k1_) := by
  unfold z1c
  repeat (first | refine grd_out h0 ?_ | refine br_out ?_ ?_ | rfl | exact h0.symm)
noncomputable def z0n (sn : Nat) (t7 : Int) (b0 : List Nat) : Nat → Int → Option ((Int) ⊕ (Int × Bool))
  | 0, _ => none
  | n + 1, t8 => z1c sn t7 b0  t8  (fun t8' => z0n sn t7 b0 n t8') (fun c0_ => some (Sum.inl c0_)) (fun c0_ c1_ => some (Sum.inr (c0_, c1_)))
theorem z93 (sn : Nat) (t7 : Int) (b0 : List Nat) (n : Nat) (t8 : Int) : z0n sn t7 b0 (n + 1) t8 = z1c sn t7 b0  t8  (fun t8' => z0n sn t7 b0 n t8') (fun c0_ => some (Sum.inl c0_)) (fun c0_ c1_ => some (Sum.inr (c0_, c1_))) := rfl
noncomputable def z3y (sn : Nat) (t7 : Int) (b0 : List Nat) (t8 : Int) : Bool := (z0n sn t7 b0 big t8).isSome
noncomputable def z3t (sn : Nat) (t7 : Int) (b0 : List Nat) (t8 : Int) : Bool := oL (z0n sn t7 b0 big t8)
noncomputable def z69 (sn : Nat) (t7 : Int) (b0 : List Nat) (t8 : Int) : Int := ((tL (z0n sn t7 b0 big t8)).getD default)
noncomputable def z7p (sn : Nat) (t7 : Int) (b0 : List Nat) (t8 : Int) : Int := ((tR (z0n sn t7 b0 big t8)).getD default).1
noncomputable def z7o (sn : Nat) (t7 : Int) (b0 : List Nat) (t8 : Int) : Bool := ((tR (z0n sn t7 b0 big t8)).getD default).2
theorem zep {sn : Nat} {t7 : Int} {b0 : List Nat} {t8 : Int} {m : Nat} {r : Int} (hm : m = big) (h : z0n sn t7 b0 m t8 = some (Sum.inl r)) : z3y sn t7 b0 t8 = true ∧ z3t sn t7 b0 t8 = true ∧ z69 sn t7 b0 t8 = r := by
  subst hm
  unfold z3y z3t z69
  rw [h]
  exact ⟨rfl, rfl, rfl⟩
theorem zey {sn : Nat} {t7 : Int} {b0 : List Nat} {t8 : Int} {m : Nat} {r : Int × Bool} (hm : m = big) (h : z0n sn t7 b0 m t8 = some (Sum.inr r)) : z3y sn t7 b0 t8 = true ∧ z3t sn t7 b0 t8 = false ∧ z7p sn t7 b0 t8 = r.1 ∧ z7o sn t7 b0 t8 = r.2 := by
  subst hm
  unfold z3y z3t z7p z7o
  rw [h]
  exact ⟨rfl, rfl, rfl, rfl⟩
noncomputable def z8w {R : Type} (t3 : Int) (b0 : List Nat) (b1 : List Nat) (b2 : List Nat) (q1h : Nat) (q1x : Nat) (q1w : Nat) (t4 : Int) (kn_ : Int → Option R) (k0_ : Unit → Option R) (k1_ : Int → Bool → Option R) : Option R := (br (ltI t4 t3) (grd (okIx t4 q1h) (br (fcmp BinOp.geq FloatKind.f32 (gF b0 (ixO 0 t4 1)) 3204448256) (grd (okIx t4 q1h) (br (bnot (fcmp BinOp.leq FloatKind.f32 (gF b0 (ixO 0 t4 1)) 1056964608)) (k0_ ()) (br (ltI 0 t4) (grd (okIx t4 q1h) (grd (okIx (subI IntKind.i64 t4 1) q1h) (br (fcmp BinOp.leq FloatKind.f32 (gF b0 (ixO 0 t4 1)) (gF b0 (ixO 0 (subI IntKind.i64 t4 1) 1))) (k0_ ()) (grd (okIx t4 q1x) (grd (z5p (gF b1 (ixO 0 t4 1))) (br (bnot (z53 (gF b1 (ixO 0 t4 1)))) (k0_ ()) (grd (okIx t4 q1w) (grd (z9r (gF b2 (ixO 0 t4 1))) (br (bnot (z98 (gF b2 (ixO 0 t4 1)))) (k0_ ()) (kn_ (addI IntKind.i64 t4 1))))))))))) (grd (okIx t4 q1x) (grd (z5p (gF b1 (ixO 0 t4 1))) (br (bnot (z53 (gF b1 (ixO 0 t4 1)))) (k0_ ()) (grd (okIx t4 q1w) (grd (z9r (gF b2 (ixO 0 t4 1))) (br (bnot (z98 (gF b2 (ixO 0 t4 1)))) (k0_ ()) (kn_ (addI IntKind.i64 t4 1))))))))))) (br (bnot Bool.false) (k0_ ()) (br (ltI 0 t4) (grd (okIx t4 q1h) (grd (okIx (subI IntKind.i64 t4 1) q1h) (br (fcmp BinOp.leq FloatKind.f32 (gF b0 (ixO 0 t4 1)) (gF b0 (ixO 0 (subI IntKind.i64 t4 1) 1))) (k0_ ()) (grd (okIx t4 q1x) (grd (z5p (gF b1 (ixO 0 t4 1))) (br (bnot (z53 (gF b1 (ixO 0 t4 1)))) (k0_ ()) (grd (okIx t4 q1w) (grd (z9r (gF b2 (ixO 0 t4 1))) (br (bnot (z98 (gF b2 (ixO 0 t4 1)))) (k0_ ()) (kn_ (addI IntKind.i64 t4 1))))))))))) (grd (okIx t4 q1x) (grd (z5p (gF b1 (ixO 0 t4 1))) (br (bnot (z53 (gF b1 (ixO 0 t4 1)))) (k0_ ()) (grd (okIx t4 q1w) (grd (z9r (gF b2 (ixO 0 t4 1))) (br (bnot (z98 (gF b2 (ixO 0 t4 1)))) (k0_ ()) (kn_ (addI IntKind.i64 t4 1)))))))))))) (k1_ t4 (ltI t4 t3)))
theorem zpn {R R' : Type} (o : Option R → Option R') (h0 : o none = none) (t3 : Int) (b0 : List Nat) (b1 : List Nat) (b2 : List Nat) (q1h : Nat) (q1x : Nat) (q1w : Nat) (t4 : Int) (kn_ : Int → Option R) (k0_ : Unit → Option R) (k1_ : Int → Bool → Option R) : z8w t3 b0 b1 b2 q1h q1x q1w t4 (fun t4' => o (kn_ t4')) (fun _ => o (k0_ ())) (fun c0_ c1_ => o (k1_ c0_ c1_)) = o (z8w t3 b0 b1 b2 q1h q1x q1w t4 kn_ k0_ k1_) := by
  unfold z8w
  repeat (first | refine grd_out h0 ?_ | refine br_out ?_ ?_ | rfl | exact h0.symm)
noncomputable def z6x (t3 : Int) (b0 : List Nat) (b1 : List Nat) (b2 : List Nat) (q1h : Nat) (q1x : Nat) (q1w : Nat) : Nat → Int → Option ((Unit) ⊕ (Int × Bool))
  | 0, _ => none
  | n + 1, t4 => z8w t3 b0 b1 b2 q1h q1x q1w  t4  (fun t4' => z6x t3 b0 b1 b2 q1h q1x q1w n t4') (fun _ => some (Sum.inl ())) (fun c0_ c1_ => some (Sum.inr (c0_, c1_)))
theorem zkh (t3 : Int) (b0 : List Nat) (b1 : List Nat) (b2 : List Nat) (q1h : Nat) (q1x : Nat) (q1w : Nat) (n : Nat) (t4 : Int) : z6x t3 b0 b1 b2 q1h q1x q1w (n + 1) t4 = z8w t3 b0 b1 b2 q1h q1x q1w  t4  (fun t4' => z6x t3 b0 b1 b2 q1h q1x q1w n t4') (fun _ => some (Sum.inl ())) (fun c0_ c1_ => some (Sum.inr (c0_, c1_))) := rfl
noncomputable def z9s (t3 : Int) (b0 : List Nat) (b1 : List Nat) (b2 : List Nat) (q1h : Nat) (q1x : Nat) (q1w : Nat) (t4 : Int) : Bool := (z6x t3 b0 b1 b2 q1h q1x q1w big t4).isSome
noncomputable def z99 (t3 : Int) (b0 : List Nat) (b1 : List Nat) (b2 : List Nat) (q1h : Nat) (q1x : Nat) (q1w : Nat) (t4 : Int) : Bool := oL (z6x t3 b0 b1 b2 q1h q1x q1w big t4)
noncomputable def zj3 (t3 : Int) (b0 : List Nat) (b1 : List Nat) (b2 : List Nat) (q1h : Nat) (q1x : Nat) (q1w : Nat) (t4 : Int) : Int := ((tR (z6x t3 b0 b1 b2 q1h q1x q1w big t4)).getD default).1
noncomputable def zj4 (t3 : Int) (b0 : List Nat) (b1 : List Nat) (b2 : List Nat) (q1h : Nat) (q1x : Nat) (q1w : Nat) (t4 : Int) : Bool := ((tR (z6x t3 b0 b1 b2 q1h q1x q1w big t4)).getD default).2
theorem zrn {t3 : Int} {b0 : List Nat} {b1 : List Nat} {b2 : List Nat} {q1h : Nat} {q1x : Nat} {q1w : Nat} {t4 : Int} {m : Nat} {r : Unit} (hm : m = big) (h : z6x t3 b0 b1 b2 q1h q1x q1w m t4 = some (Sum.inl r)) : z9s t3 b0 b1 b2 q1h q1x q1w t4 = true ∧ z99 t3 b0 b1 b2 q1h q1x q1w t4 = true := by
  subst hm
  unfold z9s z99
  rw [h]
  exact ⟨rfl, rfl⟩
theorem zqw {t3 : Int} {b0 : List Nat} {b1 : List Nat} {b2 : List Nat} {q1h : Nat} {q1x : Nat} {q1w : Nat} {t4 : Int} {m : Nat} {r : Int × Bool} (hm : m = big) (h : z6x t3 b0 b1 b2 q1h q1x q1w m t4 = some (Sum.inr r)) : z9s t3 b0 b1 b2 q1h q1x q1w t4 = true ∧ z99 t3 b0 b1 b2 q1h q1x q1w t4 = false ∧ zj3 t3 b0 b1 b2 q1h q1x q1w t4 = r.1 ∧ zj4 t3 b0 b1 b2 q1h q1x q1w t4 = r.2 := by
  subst hm
  unfold z9s z99 zj3 zj4
  rw [h]
  exact ⟨rfl, rfl, rfl, rfl⟩
noncomputable def zds {R : Type} (q0k : Nat) (q0p : List Nat) (q0m : Nat) (q0t : List Nat) (q0l : Nat) (q0s : List Nat) (q11 : Nat) (q1b : List Nat) (q1o : Int) (q20 : Nat) (q1z : Nat) (k_ : Nat → Nat → Nat → Nat → (List Nat) → (List Nat) → (List Nat) → (List Nat) → Option R) : Option R := (grd (zi6 q0k (pF q0p 0 (muN q0k 1)) q0m (pF q0t 0 (muN q0m 1)) q0l (pF q0s 0 (muN q0l 1))) (grd (zgk q11 (pF q1b 0 (muN q11 3))) (k_ (zgp q0k (pF q0p 0 (muN q0k 1)) q0m (pF q0t 0 (muN q0m 1)) q0l (pF q0s 0 (muN q0l 1))) (zgm q0k (pF q0p 0 (muN q0k 1)) q0m (pF q0t 0 (muN q0m 1)) q0l (pF q0s 0 (muN q0l 1))) (zgt q0k (pF q0p 0 (muN q0k 1)) q0m (pF q0t 0 (muN q0m 1)) q0l (pF q0s 0 (muN q0l 1))) (zfw q11 (pF q1b 0 (muN q11 3))) (zgn q0k (pF q0p 0 (muN q0k 1)) q0m (pF q0t 0 (muN q0m 1)) q0l (pF q0s 0 (muN q0l 1))) (zgq q0k (pF q0p 0 (muN q0k 1)) q0m (pF q0t 0 (muN q0m 1)) q0l (pF q0s 0 (muN q0l 1))) (zgh q0k (pF q0p 0 (muN q0k 1)) q0m (pF q0t 0 (muN q0m 1)) q0l (pF q0s 0 (muN q0l 1))) (zfm q11 (pF q1b 0 (muN q11 3))))))
noncomputable def z7e (q0k : Nat) (q0p : List Nat) (q0m : Nat) (q0t : List Nat) (q0l : Nat) (q0s : List Nat) (q11 : Nat) (q1b : List Nat) (q1o : Int) (q20 : Nat) (q1z : Nat) : Option (Nat × Nat × Nat × Nat × (List Nat) × (List Nat) × (List Nat) × (List Nat)) := zds q0k q0p q0m q0t q0l q0s q11 q1b q1o q20 q1z (fun c0_ c1_ c2_ c3_ c4_ c5_ c6_ c7_ => some (c0_, c1_, c2_, c3_, c4_, c5_, c6_, c7_))
theorem zq2 {R R' : Type} (o : Option R → Option R') (h0 : o none = none) (q0k : Nat) (q0p : List Nat) (q0m : Nat) (q0t : List Nat) (q0l : Nat) (q0s : List Nat) (q11 : Nat) (q1b : List Nat) (q1o : Int) (q20 : Nat) (q1z : Nat) (k_ : Nat → Nat → Nat → Nat → (List Nat) → (List Nat) → (List Nat) → (List Nat) → Option R) : zds q0k q0p q0m q0t q0l q0s q11 q1b q1o q20 q1z (fun c0_ c1_ c2_ c3_ c4_ c5_ c6_ c7_ => o (k_ c0_ c1_ c2_ c3_ c4_ c5_ c6_ c7_)) = o (zds q0k q0p q0m q0t q0l q0s q11 q1b q1o q20 q1z k_) := by
  unfold zds
  repeat (first | refine grd_out h0 ?_ | refine br_out ?_ ?_ | rfl | exact h0.symm)
noncomputable def zc8 (q0k : Nat) (q0p : List Nat) (q0m : Nat) (q0t : List Nat) (q0l : Nat) (q0s : List Nat) (q11 : Nat) (q1b : List Nat) (q1o : Int) (q20 : Nat) (q1z : Nat) : Bool := (z7e q0k q0p q0m q0t q0l q0s q11 q1b q1o q20 q1z).isSome
noncomputable def z1k (q0k : Nat) (q0p : List Nat) (q0m : Nat) (q0t : List Nat) (q0l : Nat) (q0s : List Nat) (q11 : Nat) (q1b : List Nat) (q1o : Int) (q20 : Nat) (q1z : Nat) : Nat := ((z7e q0k q0p q0m q0t q0l q0s q11 q1b q1o q20 q1z).getD default).1
noncomputable def z1l (q0k : Nat) (q0p : List Nat) (q0m : Nat) (q0t : List Nat) (q0l : Nat) (q0s : List Nat) (q11 : Nat) (q1b : List Nat) (q1o : Int) (q20 : Nat) (q1z : Nat) : Nat := ((z7e q0k q0p q0m q0t q0l q0s q11 q1b q1o q20 q1z).getD default).2.1
noncomputable def z1m (q0k : Nat) (q0p : List Nat) (q0m : Nat) (q0t : List Nat) (q0l : Nat) (q0s : List Nat) (q11 : Nat) (q1b : List Nat) (q1o : Int) (q20 : Nat) (q1z : Nat) : Nat := ((z7e q0k q0p q0m q0t q0l q0s q11 q1b q1o q20 q1z).getD default).2.2.1
noncomputable def z1n (q0k : Nat) (q0p : List Nat) (q0m : Nat) (q0t : List Nat) (q0l : Nat) (q0s : List Nat) (q11 : Nat) (q1b : List Nat) (q1o : Int) (q20 : Nat) (q1z : Nat) : Nat := ((z7e q0k q0p q0m q0t q0l q0s q11 q1b q1o q20 q1z).getD default).2.2.2.1
noncomputable def z5x (q0k : Nat) (q0p : List Nat) (q0m : Nat) (q0t : List Nat) (q0l : Nat) (q0s : List Nat) (q11 : Nat) (q1b : List Nat) (q1o : Int) (q20 : Nat) (q1z : Nat) : List Nat := ((z7e q0k q0p q0m q0t q0l q0s q11 q1b q1o q20 q1z).getD default).2.2.2.2.1
noncomputable def z5u (q0k : Nat) (q0p : List Nat) (q0m : Nat) (q0t : List Nat) (q0l : Nat) (q0s : List Nat) (q11 : Nat) (q1b : List Nat) (q1o : Int) (q20 : Nat) (q1z : Nat) : List Nat := ((z7e q0k q0p q0m q0t q0l q0s q11 q1b q1o q20 q1z).getD default).2.2.2.2.2.1
noncomputable def z5q (q0k : Nat) (q0p : List Nat) (q0m : Nat) (q0t : List Nat) (q0l : Nat) (q0s : List Nat) (q11 : Nat) (q1b : List Nat) (q1o : Int) (q20 : Nat) (q1z : Nat) : List Nat := ((z7e q0k q0p q0m q0t q0l q0s q11 q1b q1o q20 q1z).getD default).2.2.2.2.2.2.1
noncomputable def z5t (q0k : Nat) (q0p : List Nat) (q0m : Nat) (q0t : List Nat) (q0l : Nat) (q0s : List Nat) (q11 : Nat) (q1b : List Nat) (q1o : Int) (q20 : Nat) (q1z : Nat) : List Nat := ((z7e q0k q0p q0m q0t q0l q0s q11 q1b q1o q20 q1z).getD default).2.2.2.2.2.2.2
theorem zsr {q0k : Nat} {q0p : List Nat} {q0m : Nat} {q0t : List Nat} {q0l : Nat} {q0s : List Nat} {q11 : Nat} {q1b : List Nat} {q1o : Int} {q20 : Nat} {q1z : Nat} {r : Nat × Nat × Nat × Nat × (List Nat) × (List Nat) × (List Nat) × (List Nat)} (h : z7e q0k q0p q0m q0t q0l q0s q11 q1b q1o q20 q1z = some r) : zc8 q0k q0p q0m q0t q0l q0s q11 q1b q1o q20 q1z = true ∧ z1k q0k q0p q0m q0t q0l q0s q11 q1b q1o q20 q1z = r.1 ∧ z1l q0k q0p q0m q0t q0l q0s q11 q1b q1o q20 q1z = r.2.1 ∧ z1m q0k q0p q0m q0t q0l q0s q11 q1b q1o q20 q1z = r.2.2.1 ∧ z1n q0k q0p q0m q0t q0l q0s q11 q1b q1o q20 q1z = r.2.2.2.1 ∧ z5x q0k q0p q0m q0t q0l q0s q11 q1b q1o q20 q1z = r.2.2.2.2.1 ∧ z5u q0k q0p q0m q0t q0l q0s q11 q1b q1o q20 q1z = r.2.2.2.2.2.1 ∧ z5q q0k q0p q0m q0t q0l q0s q11 q1b q1o q20 q1z = r.2.2.2.2.2.2.1 ∧ z5t q0k q0p q0m q0t q0l q0s q11 q1b q1o q20 q1z = r.2.2.2.2.2.2.2 := by
  unfold zc8 z1k z1l z1m z1n z5x z5u z5q z5t
  rw [h]
  exact ⟨rfl, rfl, rfl, rfl, rfl, rfl, rfl, rfl, rfl⟩
noncomputable def zbt {R : Type} (q17 : Nat) (q1n : List Nat) (q1d : Nat) (q1p : List Nat) (q1g : Nat) (q1r : List Nat) (q2h : Nat) (q2r : List Nat) (q2k : Nat) (q2u : List Nat) (q2j : Nat) (q2w : List Nat) (k_ : Bool → Option R) : Option R := (grd (zbg q17 (pF q1n 0 (muN q17 1)) q2h (pF q2r 0 (muN q2h 1))) (br (bnot (zaa q17 (pF q1n 0 (muN q17 1)) q2h (pF q2r 0 (muN q2h 1)))) (k_ Bool.false) (grd (zbg q1d (pF q1p 0 (muN q1d 1)) q2k (pF q2u 0 (muN q2k 1))) (br (bnot (zaa q1d (pF q1p 0 (muN q1d 1)) q2k (pF q2u 0 (muN q2k 1)))) (k_ Bool.false) (grd (zbg q1g (pF q1r 0 (muN q1g 1)) q2j (pF q2w 0 (muN q2j 1))) (br (bnot (zaa q1g (pF q1r 0 (muN q1g 1)) q2j (pF q2w 0 (muN q2j 1)))) (k_ Bool.false) (k_ Bool.true)))))))
noncomputable def zca (q17 : Nat) (q1n : List Nat) (q1d : Nat) (q1p : List Nat) (q1g : Nat) (q1r : List Nat) (q2h : Nat) (q2r : List Nat) (q2k : Nat) (q2u : List Nat) (q2j : Nat) (q2w : List Nat) : Option (Bool) := zbt q17 q1n q1d q1p q1g q1r q2h q2r q2k q2u q2j q2w (fun c0_ => some c0_)
theorem zoo {R R' : Type} (o : Option R → Option R') (h0 : o none = none) (q17 : Nat) (q1n : List Nat) (q1d : Nat) (q1p : List Nat) (q1g : Nat) (q1r : List Nat) (q2h : Nat) (q2r : List Nat) (q2k : Nat) (q2u : List Nat) (q2j : Nat) (q2w : List Nat) (k_ : Bool → Option R) : zbt q17 q1n q1d q1p q1g q1r q2h q2r q2k q2u q2j q2w (fun c0_ => o (k_ c0_)) = o (zbt q17 q1n q1d q1p q1g q1r q2h q2r q2k q2u q2j q2w k_) := by
  unfold zbt
  repeat (first | refine grd_out h0 ?_ | refine br_out ?_ ?_ | rfl | exact h0.symm)
noncomputable def zi5 (q17 : Nat) (q1n : List Nat) (q1d : Nat) (q1p : List Nat) (q1g : Nat) (q1r : List Nat) (q2h : Nat) (q2r : List Nat) (q2k : Nat) (q2u : List Nat) (q2j : Nat) (q2w : List Nat) : Bool := (zca q17 q1n q1d q1p q1g q1r q2h q2r q2k q2u q2j q2w).isSome
noncomputable def zgo (q17 : Nat) (q1n : List Nat) (q1d : Nat) (q1p : List Nat) (q1g : Nat) (q1r : List Nat) (q2h : Nat) (q2r : List Nat) (q2k : Nat) (q2u : List Nat) (q2j : Nat) (q2w : List Nat) : Bool := ((zca q17 q1n q1d q1p q1g q1r q2h q2r q2k q2u q2j q2w).getD default)
theorem zr6 {q17 : Nat} {q1n : List Nat} {q1d : Nat} {q1p : List Nat} {q1g : Nat} {q1r : List Nat} {q2h : Nat} {q2r : List Nat} {q2k : Nat} {q2u : List Nat} {q2j : Nat} {q2w : List Nat} {r : Bool} (h : zca q17 q1n q1d q1p q1g q1r q2h q2r q2k q2u q2j q2w = some r) : zi5 q17 q1n q1d q1p q1g q1r q2h q2r q2k q2u q2j q2w = true ∧ zgo q17 q1n q1d q1p q1g q1r q2h q2r q2k q2u q2j q2w = r := by
  unfold zi5 zgo
  rw [h]
  exact ⟨rfl, rfl⟩
noncomputable def zbm {R : Type} (a_n : Nat) (a : List Nat) (b_n : Nat) (b : List Nat) (k_ : Bool → Option R) : Option R := (br (neI (Int.ofNat a_n) (Int.ofNat b_n)) (k_ Bool.false) (grd (zaw a_n b_n a b 0) (br (zam a_n b_n a b 0) (k_ Bool.false) (k_ Bool.true))))
noncomputable def zb3 (a_n : Nat) (a : List Nat) (b_n : Nat) (b : List Nat) : Option (Bool) := zbm a_n a b_n b (fun c0_ => some c0_)
theorem zno {R R' : Type} (o : Option R → Option R') (h0 : o none = none) (a_n : Nat) (a : List Nat) (b_n : Nat) (b : List Nat) (k_ : Bool → Option R) : zbm a_n a b_n b (fun c0_ => o (k_ c0_)) = o (zbm a_n a b_n b k_) := by
  unfold zbm
  repeat (first | refine grd_out h0 ?_ | refine br_out ?_ ?_ | rfl | exact h0.symm)
noncomputable def zgg (a_n : Nat) (a : List Nat) (b_n : Nat) (b : List Nat) : Bool := (zb3 a_n a b_n b).isSome
noncomputable def zfd (a_n : Nat) (a : List Nat) (b_n : Nat) (b : List Nat) : Bool := ((zb3 a_n a b_n b).getD default)
theorem zq9 {a_n : Nat} {a : List Nat} {b_n : Nat} {b : List Nat} {r : Bool} (h : zb3 a_n a b_n b = some r) : zgg a_n a b_n b = true ∧ zfd a_n a b_n b = r := by
  unfold zgg zfd
  rw [h]
  exact ⟨rfl, rfl⟩
noncomputable def zdy {R : Type} (x : Nat) (k_ : Nat → Option R) : Option R := (grd (zfk (fcvV FloatKind.f32 FloatKind.f64 x)) (grd (ze9 (zbr (fcvV FloatKind.f32 FloatKind.f64 x))) (k_ (zbj (zbr (fcvV FloatKind.f32 FloatKind.f64 x))))))
noncomputable def zc5 (x : Nat) : Option (Nat) := zdy x (fun c0_ => some c0_)
theorem zqj {R R' : Type} (o : Option R → Option R') (h0 : o none = none) (x : Nat) (k_ : Nat → Option R) : zdy x (fun c0_ => o (k_ c0_)) = o (zdy x k_) := by
  unfold zdy
  repeat (first | refine grd_out h0 ?_ | refine br_out ?_ ?_ | rfl | exact h0.symm)
noncomputable def z9c (x : Nat) : Bool := (zc5 x).isSome
noncomputable def z5w (x : Nat) : Nat := ((zc5 x).getD default)
theorem zcw {x : Nat} {r : Nat} (h : zc5 x = some r) : z9c x = true ∧ z5w x = r := by
  unfold z9c z5w
  rw [h]
  exact ⟨rfl, rfl⟩
noncomputable def z50 {R : Type} (s_n : Nat) (s : List Nat) (k_ : Int → Option R) : Option R := (grd (z4b s_n (Int.ofNat s_n) s 0) (br (z47 s_n (Int.ofNat s_n) s 0) (k_ (z6g s_n (Int.ofNat s_n) s 0)) (k_ (Int.negSucc 0))))
noncomputable def z51 (s_n : Nat) (s : List Nat) : Option (Int) := z50 s_n s (fun c0_ => some c0_)
theorem zge {R R' : Type} (o : Option R → Option R') (h0 : o none = none) (s_n : Nat) (s : List Nat) (k_ : Int → Option R) : z50 s_n s (fun c0_ => o (k_ c0_)) = o (z50 s_n s k_) := by
  unfold z50
  repeat (first | refine grd_out h0 ?_ | refine br_out ?_ ?_ | rfl | exact h0.symm)
noncomputable def z7h (s_n : Nat) (s : List Nat) : Bool := (z51 s_n s).isSome
noncomputable def z7a (s_n : Nat) (s : List Nat) : Int := ((z51 s_n s).getD default)
theorem zi3 {s_n : Nat} {s : List Nat} {r : Int} (h : z51 s_n s = some r) : z7h s_n s = true ∧ z7a s_n s = r := by
  unfold z7h z7a
  rw [h]
  exact ⟨rfl, rfl⟩
noncomputable def z4q {R : Type} (s_n : Nat) (s : List Nat) (k_ : Int → Option R) : Option R := (grd (z3y s_n (Int.ofNat s_n) s 0) (br (z3t s_n (Int.ofNat s_n) s 0) (k_ (z69 s_n (Int.ofNat s_n) s 0)) (k_ (Int.negSucc 0))))
noncomputable def z4m (s_n : Nat) (s : List Nat) : Option (Int) := z4q s_n s (fun c0_ => some c0_)
theorem zg3 {R R' : Type} (o : Option R → Option R') (h0 : o none = none) (s_n : Nat) (s : List Nat) (k_ : Int → Option R) : z4q s_n s (fun c0_ => o (k_ c0_)) = o (z4q s_n s k_) := by
  unfold z4q
  repeat (first | refine grd_out h0 ?_ | refine br_out ?_ ?_ | rfl | exact h0.symm)
noncomputable def z75 (s_n : Nat) (s : List Nat) : Bool := (z4m s_n s).isSome
noncomputable def z6u (s_n : Nat) (s : List Nat) : Int := ((z4m s_n s).getD default)
theorem zha {s_n : Nat} {s : List Nat} {r : Int} (h : z4m s_n s = some r) : z75 s_n s = true ∧ z6u s_n s = r := by
  unfold z75 z6u
  rw [h]
  exact ⟨rfl, rfl⟩
noncomputable def zh7 {R : Type} (q07 : Nat) (q0c : List Nat) (q0o : Nat) (q0u : List Nat) (q0n : Nat) (q0v : List Nat) (k_ : Bool → Option R) : Option R := (br (ltI (Int.ofNat q07) 2) (k_ Bool.false) (br (ltI 24 (Int.ofNat q07)) (k_ Bool.false) (br (neI (Int.ofNat q0o) (Int.ofNat q07)) (k_ Bool.false) (br (neI (Int.ofNat q0n) (Int.ofNat q07)) (k_ Bool.false) (grd (z9s (Int.ofNat q07) q0c q0u q0v q07 q0o q0n 0) (br (z99 (Int.ofNat q07) q0c q0u q0v q07 q0o q0n 0) (k_ Bool.false) (k_ Bool.true)))))))
noncomputable def zhh (q07 : Nat) (q0c : List Nat) (q0o : Nat) (q0u : List Nat) (q0n : Nat) (q0v : List Nat) : Option (Bool) := zh7 q07 q0c q0o q0u q0n q0v (fun c0_ => some c0_)
theorem zrv {R R' : Type} (o : Option R → Option R') (h0 : o none = none) (q07 : Nat) (q0c : List Nat) (q0o : Nat) (q0u : List Nat) (q0n : Nat) (q0v : List Nat) (k_ : Bool → Option R) : zh7 q07 q0c q0o q0u q0n q0v (fun c0_ => o (k_ c0_)) = o (zh7 q07 q0c q0o q0u q0n q0v k_) := by
  unfold zh7
  repeat (first | refine grd_out h0 ?_ | refine br_out ?_ ?_ | rfl | exact h0.symm)
noncomputable def zki (q07 : Nat) (q0c : List Nat) (q0o : Nat) (q0u : List Nat) (q0n : Nat) (q0v : List Nat) : Bool := (zhh q07 q0c q0o q0u q0n q0v).isSome
noncomputable def zk2 (q07 : Nat) (q0c : List Nat) (q0o : Nat) (q0u : List Nat) (q0n : Nat) (q0v : List Nat) : Bool := ((zhh q07 q0c q0o q0u q0n q0v).getD default)
theorem zu7 {q07 : Nat} {q0c : List Nat} {q0o : Nat} {q0u : List Nat} {q0n : Nat} {q0v : List Nat} {r : Bool} (h : zhh q07 q0c q0o q0u q0n q0v = some r) : zki q07 q0c q0o q0u q0n q0v = true ∧ zk2 q07 q0c q0o q0u q0n q0v = r := by
  unfold zki zk2
  rw [h]
  exact ⟨rfl, rfl⟩
noncomputable def z1w {R : Type} (sn : Nat) (t7 : Int) (b0 : List Nat) (t8 : Int) (kn_ : Int → Option R) (k0_ : Int → Option R) (k1_ : Int → Bool → Option R) : Option R := (br (ltI t8 t7) (grd (okIx t8 sn) (grd (zgx (gF b0 (ixO 0 t8 1))) (br (zfy (gF b0 (ixO 0 t8 1))) (k0_ t8) (kn_ (addI IntKind.i64 t8 1))))) (k1_ t8 (ltI t8 t7)))
theorem zfh {R R' : Type} (o : Option R → Option R') (h0 : o none = none) (sn : Nat) (t7 : Int) (b0 : List Nat) (t8 : Int) (kn_ : Int → Option R) (k0_ : Int → Option R) (k1_ : Int → Bool → Option R) : z1w sn t7 b0 t8 (fun t8' => o (kn_ t8')) (fun c0_ => o (k0_ c0_)) (fun c0_ c1_ => o (k1_ c0_ c1_)) = o (z1w sn t7 b0 t8 kn_ k0_ k1_) := by
  unfold z1w
  repeat (first | refine grd_out h0 ?_ | refine br_out ?_ ?_ | rfl | exact h0.symm)
noncomputable def z0p (sn : Nat) (t7 : Int) (b0 : List Nat) : Nat → Int → Option ((Int) ⊕ (Int × Bool))
  | 0, _ => none
  | n + 1, t8 => z1w sn t7 b0  t8  (fun t8' => z0p sn t7 b0 n t8') (fun c0_ => some (Sum.inl c0_)) (fun c0_ c1_ => some (Sum.inr (c0_, c1_)))
theorem z9l (sn : Nat) (t7 : Int) (b0 : List Nat) (n : Nat) (t8 : Int) : z0p sn t7 b0 (n + 1) t8 = z1w sn t7 b0  t8  (fun t8' => z0p sn t7 b0 n t8') (fun c0_ => some (Sum.inl c0_)) (fun c0_ c1_ => some (Sum.inr (c0_, c1_))) := rfl
noncomputable def z4n (sn : Nat) (t7 : Int) (b0 : List Nat) (t8 : Int) : Bool := (z0p sn t7 b0 big t8).isSome
noncomputable def z4e (sn : Nat) (t7 : Int) (b0 : List Nat) (t8 : Int) : Bool := oL (z0p sn t7 b0 big t8)
noncomputable def z6p (sn : Nat) (t7 : Int) (b0 : List Nat) (t8 : Int) : Int := ((tL (z0p sn t7 b0 big t8)).getD default)
noncomputable def z85 (sn : Nat) (t7 : Int) (b0 : List Nat) (t8 : Int) : Int := ((tR (z0p sn t7 b0 big t8)).getD default).1
noncomputable def z86 (sn : Nat) (t7 : Int) (b0 : List Nat) (t8 : Int) : Bool := ((tR (z0p sn t7 b0 big t8)).getD default).2
theorem zgc {sn : Nat} {t7 : Int} {b0 : List Nat} {t8 : Int} {m : Nat} {r : Int} (hm : m = big) (h : z0p sn t7 b0 m t8 = some (Sum.inl r)) : z4n sn t7 b0 t8 = true ∧ z4e sn t7 b0 t8 = true ∧ z6p sn t7 b0 t8 = r := by
  subst hm
  unfold z4n z4e z6p
  rw [h]
  exact ⟨rfl, rfl, rfl⟩
theorem zgd {sn : Nat} {t7 : Int} {b0 : List Nat} {t8 : Int} {m : Nat} {r : Int × Bool} (hm : m = big) (h : z0p sn t7 b0 m t8 = some (Sum.inr r)) : z4n sn t7 b0 t8 = true ∧ z4e sn t7 b0 t8 = false ∧ z85 sn t7 b0 t8 = r.1 ∧ z86 sn t7 b0 t8 = r.2 := by
  subst hm
  unfold z4n z4e z85 z86
  rw [h]
  exact ⟨rfl, rfl, rfl, rfl⟩
noncomputable def ze1 {R : Type} (q0k : Nat) (q0p : List Nat) (q0m : Nat) (q0t : List Nat) (q0l : Nat) (q0s : List Nat) (q11 : Nat) (q1b : List Nat) (q1o : Int) (q20 : Nat) (q1z : Nat) (q21 : Nat) (q26 : List Nat) (q22 : Nat) (q28 : List Nat) (q23 : Nat) (q2a : List Nat) (q2f : Nat) (q2i : List Nat) (q2y : Int) (q34 : Nat) (q33 : Nat) (k_ : Bool → Option R) : Option R := (grd (zi5 q0k (pF q0p 0 (muN q0k 1)) q0m (pF q0t 0 (muN q0m 1)) q0l (pF q0s 0 (muN q0l 1)) q21 (pF q26 0 (muN q21 1)) q22 (pF q28 0 (muN q22 1)) q23 (pF q2a 0 (muN q23 1))) (br (bnot (zgo q0k (pF q0p 0 (muN q0k 1)) q0m (pF q0t 0 (muN q0m 1)) q0l (pF q0s 0 (muN q0l 1)) q21 (pF q26 0 (muN q21 1)) q22 (pF q28 0 (muN q22 1)) q23 (pF q2a 0 (muN q23 1)))) (k_ Bool.false) (grd (zgg q11 (pF q1b 0 (muN q11 3)) q2f (pF q2i 0 (muN q2f 3))) (br (bnot (zfd q11 (pF q1b 0 (muN q11 3)) q2f (pF q2i 0 (muN q2f 3)))) (k_ Bool.false) (br (neI q1o q2y) (k_ Bool.false) (grd (z88 (fcvV FloatKind.f32 FloatKind.f64 q20) (fcvV FloatKind.f32 FloatKind.f64 q34)) (br (bnot (z7t (fcvV FloatKind.f32 FloatKind.f64 q20) (fcvV FloatKind.f32 FloatKind.f64 q34))) (k_ Bool.false) (grd (z88 (fcvV FloatKind.f32 FloatKind.f64 q1z) (fcvV FloatKind.f32 FloatKind.f64 q33)) (br (bnot (z7t (fcvV FloatKind.f32 FloatKind.f64 q1z) (fcvV FloatKind.f32 FloatKind.f64 q33))) (k_ Bool.false) (k_ Bool.true))))))))))
noncomputable def zdo (q0k : Nat) (q0p : List Nat) (q0m : Nat) (q0t : List Nat) (q0l : Nat) (q0s : List Nat) (q11 : Nat) (q1b : List Nat) (q1o : Int) (q20 : Nat) (q1z : Nat) (q21 : Nat) (q26 : List Nat) (q22 : Nat) (q28 : List Nat) (q23 : Nat) (q2a : List Nat) (q2f : Nat) (q2i : List Nat) (q2y : Int) (q34 : Nat) (q33 : Nat) : Option (Bool) := ze1 q0k q0p q0m q0t q0l q0s q11 q1b q1o q20 q1z q21 q26 q22 q28 q23 q2a q2f q2i q2y q34 q33 (fun c0_ => some c0_)
theorem zqb {R R' : Type} (o : Option R → Option R') (h0 : o none = none) (q0k : Nat) (q0p : List Nat) (q0m : Nat) (q0t : List Nat) (q0l : Nat) (q0s : List Nat) (q11 : Nat) (q1b : List Nat) (q1o : Int) (q20 : Nat) (q1z : Nat) (q21 : Nat) (q26 : List Nat) (q22 : Nat) (q28 : List Nat) (q23 : Nat) (q2a : List Nat) (q2f : Nat) (q2i : List Nat) (q2y : Int) (q34 : Nat) (q33 : Nat) (k_ : Bool → Option R) : ze1 q0k q0p q0m q0t q0l q0s q11 q1b q1o q20 q1z q21 q26 q22 q28 q23 q2a q2f q2i q2y q34 q33 (fun c0_ => o (k_ c0_)) = o (ze1 q0k q0p q0m q0t q0l q0s q11 q1b q1o q20 q1z q21 q26 q22 q28 q23 q2a q2f q2i q2y q34 q33 k_) := by
  unfold ze1
  repeat (first | refine grd_out h0 ?_ | refine br_out ?_ ?_ | rfl | exact h0.symm)
noncomputable def zhp (q0k : Nat) (q0p : List Nat) (q0m : Nat) (q0t : List Nat) (q0l : Nat) (q0s : List Nat) (q11 : Nat) (q1b : List Nat) (q1o : Int) (q20 : Nat) (q1z : Nat) (q21 : Nat) (q26 : List Nat) (q22 : Nat) (q28 : List Nat) (q23 : Nat) (q2a : List Nat) (q2f : Nat) (q2i : List Nat) (q2y : Int) (q34 : Nat) (q33 : Nat) : Bool := (zdo q0k q0p q0m q0t q0l q0s q11 q1b q1o q20 q1z q21 q26 q22 q28 q23 q2a q2f q2i q2y q34 q33).isSome
noncomputable def zg1 (q0k : Nat) (q0p : List Nat) (q0m : Nat) (q0t : List Nat) (q0l : Nat) (q0s : List Nat) (q11 : Nat) (q1b : List Nat) (q1o : Int) (q20 : Nat) (q1z : Nat) (q21 : Nat) (q26 : List Nat) (q22 : Nat) (q28 : List Nat) (q23 : Nat) (q2a : List Nat) (q2f : Nat) (q2i : List Nat) (q2y : Int) (q34 : Nat) (q33 : Nat) : Bool := ((zdo q0k q0p q0m q0t q0l q0s q11 q1b q1o q20 q1z q21 q26 q22 q28 q23 q2a q2f q2i q2y q34 q33).getD default)
theorem zt3 {q0k : Nat} {q0p : List Nat} {q0m : Nat} {q0t : List Nat} {q0l : Nat} {q0s : List Nat} {q11 : Nat} {q1b : List Nat} {q1o : Int} {q20 : Nat} {q1z : Nat} {q21 : Nat} {q26 : List Nat} {q22 : Nat} {q28 : List Nat} {q23 : Nat} {q2a : List Nat} {q2f : Nat} {q2i : List Nat} {q2y : Int} {q34 : Nat} {q33 : Nat} {r : Bool} (h : zdo q0k q0p q0m q0t q0l q0s q11 q1b q1o q20 q1z q21 q26 q22 q28 q23 q2a q2f q2i q2y q34 q33 = some r) : zhp q0k q0p q0m q0t q0l q0s q11 q1b q1o q20 q1z q21 q26 q22 q28 q23 q2a q2f q2i q2y q34 q33 = true ∧ zg1 q0k q0p q0m q0t q0l q0s q11 q1b q1o q20 q1z q21 q26 q22 q28 q23 q2a q2f q2i q2y q34 q33 = r := by
  unfold zhp zg1
  rw [h]
  exact ⟨rfl, rfl⟩
noncomputable def zhi {R : Type} (x : Nat) (k_ : Nat → Option R) : Option R := (grd (bnot (nanQ FloatKind.f64 x)) (k_ (fint Ieee.Toward.down x)))
noncomputable def zhl (x : Nat) : Option (Nat) := zhi x (fun c0_ => some c0_)
theorem zsf {R R' : Type} (o : Option R → Option R') (h0 : o none = none) (x : Nat) (k_ : Nat → Option R) : zhi x (fun c0_ => o (k_ c0_)) = o (zhi x k_) := by
  unfold zhi
  repeat (first | refine grd_out h0 ?_ | refine br_out ?_ ?_ | rfl | exact h0.symm)
noncomputable def zj5 (x : Nat) : Bool := (zhl x).isSome
noncomputable def za4 (x : Nat) : Nat := ((zhl x).getD default)
theorem zpf {x : Nat} {r : Nat} (h : zhl x = some r) : zj5 x = true ∧ za4 x = r := by
  unfold zj5 za4
  rw [h]
  exact ⟨rfl, rfl⟩
noncomputable def z5f {R : Type} (s_n : Nat) (s : List Nat) (k_ : Int → Option R) : Option R := (grd (z4n s_n (Int.ofNat s_n) s 0) (br (z4e s_n (Int.ofNat s_n) s 0) (k_ (z6p s_n (Int.ofNat s_n) s 0)) (k_ (Int.negSucc 0))))
noncomputable def z5g (s_n : Nat) (s : List Nat) : Option (Int) := z5f s_n s (fun c0_ => some c0_)
theorem zhm {R R' : Type} (o : Option R → Option R') (h0 : o none = none) (s_n : Nat) (s : List Nat) (k_ : Int → Option R) : z5f s_n s (fun c0_ => o (k_ c0_)) = o (z5f s_n s k_) := by
  unfold z5f
  repeat (first | refine grd_out h0 ?_ | refine br_out ?_ ?_ | rfl | exact h0.symm)
noncomputable def z7n (s_n : Nat) (s : List Nat) : Bool := (z5g s_n s).isSome
noncomputable def z7f (s_n : Nat) (s : List Nat) : Int := ((z5g s_n s).getD default)
theorem zie {s_n : Nat} {s : List Nat} {r : Int} (h : z5g s_n s = some r) : z7n s_n s = true ∧ z7f s_n s = r := by
  unfold z7n z7f
  rw [h]
  exact ⟨rfl, rfl⟩
noncomputable def z9h {R : Type} (u : Nat) (p : Nat) (k : Nat) (kn_ : Nat → Nat → Option R) (k0_ : Nat → Nat → Bool → Option R) : Option R := (br (fcmp BinOp.geq FloatKind.f64 k 4607182418800017408) (kn_ (fop BinOp.sub FloatKind.f64 4607182418800017408 (fop BinOp.quo FloatKind.f64 (fop BinOp.mul FloatKind.f64 u p) (fop BinOp.mul FloatKind.f64 (fop BinOp.mul FloatKind.f64 4611686018427387904 k) (fop BinOp.add FloatKind.f64 (fop BinOp.mul FloatKind.f64 4611686018427387904 k) 4607182418800017408)))) (fop BinOp.sub FloatKind.f64 k 4607182418800017408)) (k0_ p k (fcmp BinOp.geq FloatKind.f64 k 4607182418800017408)))
theorem zq5 {R R' : Type} (o : Option R → Option R') (h0 : o none = none) (u : Nat) (p : Nat) (k : Nat) (kn_ : Nat → Nat → Option R) (k0_ : Nat → Nat → Bool → Option R) : z9h u p k (fun p' k' => o (kn_ p' k')) (fun c0_ c1_ c2_ => o (k0_ c0_ c1_ c2_)) = o (z9h u p k kn_ k0_) := by
  unfold z9h
  repeat (first | refine grd_out h0 ?_ | refine br_out ?_ ?_ | rfl | exact h0.symm)
noncomputable def z6w (u : Nat) : Nat → Nat → Nat → Option ((Nat × Nat × Bool))
  | 0, _, _ => none
  | n + 1, p, k => z9h u  p k  (fun p' k' => z6w u n p' k') (fun c0_ c1_ c2_ => some (c0_, c1_, c2_))
theorem zkn (u : Nat) (n : Nat) (p : Nat) (k : Nat) : z6w u (n + 1) p k = z9h u  p k  (fun p' k' => z6w u n p' k') (fun c0_ c1_ c2_ => some (c0_, c1_, c2_)) := rfl
noncomputable def zak (u : Nat) (p : Nat) (k : Nat) : Bool := (z6w u big p k).isSome
noncomputable def z8u (u : Nat) (p : Nat) (k : Nat) : Nat := ((z6w u big p k).getD default).1
noncomputable def zjx (u : Nat) (p : Nat) (k : Nat) : Nat := ((z6w u big p k).getD default).2.1
noncomputable def zjw (u : Nat) (p : Nat) (k : Nat) : Bool := ((z6w u big p k).getD default).2.2
theorem zs8 {u : Nat} {p : Nat} {k : Nat} {m : Nat} {r : Nat × Nat × Bool} (hm : m = big) (h : z6w u m p k = some r) : zak u p k = true ∧ z8u u p k = r.1 ∧ zjx u p k = r.2.1 ∧ zjw u p k = r.2.2 := by
  subst hm
  unfold zak z8u zjx zjw
  rw [h]
  exact ⟨rfl, rfl, rfl, rfl⟩
noncomputable def zik {R : Type} (q29 : Nat) (k_ : Nat → Option R) : Option R := (grd (zh0 q29) (br (fcmp BinOp.geq FloatKind.f64 (z0z q29) 4602678819172646912) (br (fcmp BinOp.gtr FloatKind.f64 (fop BinOp.sub FloatKind.f64 (z0z q29) 4602678819172646912) 4598175219545276416) (grd (zak (fop BinOp.mul FloatKind.f64 (fop BinOp.mul FloatKind.f64 (fop BinOp.sub FloatKind.f64 4602678819172646912 (fop BinOp.sub FloatKind.f64 (z0z q29) 4602678819172646912)) 4618760256179416344) (fop BinOp.mul FloatKind.f64 (fop BinOp.sub FloatKind.f64 4602678819172646912 (fop BinOp.sub FloatKind.f64 (z0z q29) 4602678819172646912)) 4618760256179416344)) 4607182418800017408 4620693217682128896) (k_ (fneg FloatKind.f64 (fop BinOp.mul FloatKind.f64 (fop BinOp.mul FloatKind.f64 (fop BinOp.sub FloatKind.f64 4602678819172646912 (fop BinOp.sub FloatKind.f64 (z0z q29) 4602678819172646912)) 4618760256179416344) (z8u (fop BinOp.mul FloatKind.f64 (fop BinOp.mul FloatKind.f64 (fop BinOp.sub FloatKind.f64 4602678819172646912 (fop BinOp.sub FloatKind.f64 (z0z q29) 4602678819172646912)) 4618760256179416344) (fop BinOp.mul FloatKind.f64 (fop BinOp.sub FloatKind.f64 4602678819172646912 (fop BinOp.sub FloatKind.f64 (z0z q29) 4602678819172646912)) 4618760256179416344)) 4607182418800017408 4620693217682128896))))) (grd (zak (fop BinOp.mul FloatKind.f64 (fop BinOp.mul FloatKind.f64 (fop BinOp.sub FloatKind.f64 (z0z q29) 4602678819172646912) 4618760256179416344) (fop BinOp.mul FloatKind.f64 (fop BinOp.sub FloatKind.f64 (z0z q29) 4602678819172646912) 4618760256179416344)) 4607182418800017408 4620693217682128896) (k_ (fneg FloatKind.f64 (fop BinOp.mul FloatKind.f64 (fop BinOp.mul FloatKind.f64 (fop BinOp.sub FloatKind.f64 (z0z q29) 4602678819172646912) 4618760256179416344) (z8u (fop BinOp.mul FloatKind.f64 (fop BinOp.mul FloatKind.f64 (fop BinOp.sub FloatKind.f64 (z0z q29) 4602678819172646912) 4618760256179416344) (fop BinOp.mul FloatKind.f64 (fop BinOp.sub FloatKind.f64 (z0z q29) 4602678819172646912) 4618760256179416344)) 4607182418800017408 4620693217682128896)))))) (br (fcmp BinOp.gtr FloatKind.f64 (z0z q29) 4598175219545276416) (grd (zak (fop BinOp.mul FloatKind.f64 (fop BinOp.mul FloatKind.f64 (fop BinOp.sub FloatKind.f64 4602678819172646912 (z0z q29)) 4618760256179416344) (fop BinOp.mul FloatKind.f64 (fop BinOp.sub FloatKind.f64 4602678819172646912 (z0z q29)) 4618760256179416344)) 4607182418800017408 4620693217682128896) (k_ (fop BinOp.mul FloatKind.f64 (fop BinOp.mul FloatKind.f64 (fop BinOp.sub FloatKind.f64 4602678819172646912 (z0z q29)) 4618760256179416344) (z8u (fop BinOp.mul FloatKind.f64 (fop BinOp.mul FloatKind.f64 (fop BinOp.sub FloatKind.f64 4602678819172646912 (z0z q29)) 4618760256179416344) (fop BinOp.mul FloatKind.f64 (fop BinOp.sub FloatKind.f64 4602678819172646912 (z0z q29)) 4618760256179416344)) 4607182418800017408 4620693217682128896)))) (grd (zak (fop BinOp.mul FloatKind.f64 (fop BinOp.mul FloatKind.f64 (z0z q29) 4618760256179416344) (fop BinOp.mul FloatKind.f64 (z0z q29) 4618760256179416344)) 4607182418800017408 4620693217682128896) (k_ (fop BinOp.mul FloatKind.f64 (fop BinOp.mul FloatKind.f64 (z0z q29) 4618760256179416344) (z8u (fop BinOp.mul FloatKind.f64 (fop BinOp.mul FloatKind.f64 (z0z q29) 4618760256179416344) (fop BinOp.mul FloatKind.f64 (z0z q29) 4618760256179416344)) 4607182418800017408 4620693217682128896)))))))
noncomputable def zii (q29 : Nat) : Option (Nat) := zik q29 (fun c0_ => some c0_)
theorem zsp {R R' : Type} (o : Option R → Option R') (h0 : o none = none) (q29 : Nat) (k_ : Nat → Option R) : zik q29 (fun c0_ => o (k_ c0_)) = o (zik q29 k_) := by
  unfold zik
  repeat (first | refine grd_out h0 ?_ | refine br_out ?_ ?_ | rfl | exact h0.symm)
noncomputable def zkt (q29 : Nat) : Bool := (zii q29).isSome
noncomputable def zje (q29 : Nat) : Nat := ((zii q29).getD default)
theorem zub {q29 : Nat} {r : Nat} (h : zii q29 = some r) : zkt q29 = true ∧ zje q29 = r := by
  unfold zkt zje
  rw [h]
  exact ⟨rfl, rfl⟩
noncomputable def zby {R : Type} (x : Nat) (k_ : Nat → Option R) : Option R := (grd (zj5 (fop BinOp.add FloatKind.f64 (fcvV FloatKind.f32 FloatKind.f64 x) 4602678819172646912)) (grd (fcvB FloatKind.f64 FloatKind.f32 (fop BinOp.sub FloatKind.f64 (fcvV FloatKind.f32 FloatKind.f64 x) (za4 (fop BinOp.add FloatKind.f64 (fcvV FloatKind.f32 FloatKind.f64 x) 4602678819172646912)))) (br (fcmp BinOp.geq FloatKind.f32 (fcvV FloatKind.f64 FloatKind.f32 (fop BinOp.sub FloatKind.f64 (fcvV FloatKind.f32 FloatKind.f64 x) (za4 (fop BinOp.add FloatKind.f64 (fcvV FloatKind.f32 FloatKind.f64 x) 4602678819172646912)))) 1056964608) (k_ 3204448256) (k_ (fcvV FloatKind.f64 FloatKind.f32 (fop BinOp.sub FloatKind.f64 (fcvV FloatKind.f32 FloatKind.f64 x) (za4 (fop BinOp.add FloatKind.f64 (fcvV FloatKind.f32 FloatKind.f64 x) 4602678819172646912))))))))
noncomputable def zc0 (x : Nat) : Option (Nat) := zby x (fun c0_ => some c0_)
theorem zox {R R' : Type} (o : Option R → Option R') (h0 : o none = none) (x : Nat) (k_ : Nat → Option R) : zby x (fun c0_ => o (k_ c0_)) = o (zby x k_) := by
  unfold zby
  repeat (first | refine grd_out h0 ?_ | refine br_out ?_ ?_ | rfl | exact h0.symm)
noncomputable def zhy (x : Nat) : Bool := (zc0 x).isSome
noncomputable def z38 (x : Nat) : Nat := ((zc0 x).getD default)
theorem zqx {x : Nat} {r : Nat} (h : zc0 x = some r) : zhy x = true ∧ z38 x = r := by
  unfold zhy z38
  rw [h]
  exact ⟨rfl, rfl⟩
noncomputable def z4d {R : Type} (s_n : Nat) (s : List Nat) (k_ : Bool → Option R) : Option R := (grd (z7h s_n (pF s 0 (muN s_n 1))) (k_ (leI 0 (z7a s_n (pF s 0 (muN s_n 1))))))
noncomputable def z4c (s_n : Nat) (s : List Nat) : Option (Bool) := z4d s_n s (fun c0_ => some c0_)
theorem zeo {R R' : Type} (o : Option R → Option R') (h0 : o none = none) (s_n : Nat) (s : List Nat) (k_ : Bool → Option R) : z4d s_n s (fun c0_ => o (k_ c0_)) = o (z4d s_n s k_) := by
  unfold z4d
  repeat (first | refine grd_out h0 ?_ | refine br_out ?_ ?_ | rfl | exact h0.symm)
noncomputable def z6v (s_n : Nat) (s : List Nat) : Bool := (z4c s_n s).isSome
noncomputable def z6s (s_n : Nat) (s : List Nat) : Bool := ((z4c s_n s).getD default)
theorem zgb {s_n : Nat} {s : List Nat} {r : Bool} (h : z4c s_n s = some r) : z6v s_n s = true ∧ z6s s_n s = r := by
  unfold z6v z6s
  rw [h]
  exact ⟨rfl, rfl⟩
noncomputable def z3z {R : Type} (s_n : Nat) (s : List Nat) (k_ : Bool → Option R) : Option R := (grd (z75 s_n (pF s 0 (muN s_n 1))) (k_ (leI 0 (z6u s_n (pF s 0 (muN s_n 1))))))
noncomputable def z42 (s_n : Nat) (s : List Nat) : Option (Bool) := z3z s_n s (fun c0_ => some c0_)
theorem ze8 {R R' : Type} (o : Option R → Option R') (h0 : o none = none) (s_n : Nat) (s : List Nat) (k_ : Bool → Option R) : z3z s_n s (fun c0_ => o (k_ c0_)) = o (z3z s_n s k_) := by
  unfold z3z
  repeat (first | refine grd_out h0 ?_ | refine br_out ?_ ?_ | rfl | exact h0.symm)
noncomputable def z6n (s_n : Nat) (s : List Nat) : Bool := (z42 s_n s).isSome
noncomputable def z6h (s_n : Nat) (s : List Nat) : Bool := ((z42 s_n s).getD default)
theorem zfv {s_n : Nat} {s : List Nat} {r : Bool} (h : z42 s_n s = some r) : z6n s_n s = true ∧ z6h s_n s = r := by
  unfold z6n z6h
  rw [h]
  exact ⟨rfl, rfl⟩
noncomputable def z4p {R : Type} (s_n : Nat) (s : List Nat) (k_ : Bool → Option R) : Option R := (grd (z7n s_n (pF s 0 (muN s_n 1))) (k_ (leI 0 (z7f s_n (pF s 0 (muN s_n 1))))))
noncomputable def z4o (s_n : Nat) (s : List Nat) : Option (Bool) := z4p s_n s (fun c0_ => some c0_)
theorem zfr {R R' : Type} (o : Option R → Option R') (h0 : o none = none) (s_n : Nat) (s : List Nat) (k_ : Bool → Option R) : z4p s_n s (fun c0_ => o (k_ c0_)) = o (z4p s_n s k_) := by
  unfold z4p
  repeat (first | refine grd_out h0 ?_ | refine br_out ?_ ?_ | rfl | exact h0.symm)
noncomputable def z74 (s_n : Nat) (s : List Nat) : Bool := (z4o s_n s).isSome
noncomputable def z6t (s_n : Nat) (s : List Nat) : Bool := ((z4o s_n s).getD default)
theorem zhc {s_n : Nat} {s : List Nat} {r : Bool} (h : z4o s_n s = some r) : z74 s_n s = true ∧ z6t s_n s = r := by
  unfold z74 z6t
  rw [h]
  exact ⟨rfl, rfl⟩
noncomputable def zdm {R : Type} (x : Nat) (k_ : Nat → Option R) : Option R := (grd (zj5 (fop BinOp.add FloatKind.f64 (fcvV FloatKind.f32 FloatKind.f64 x) 4602678819172646912)) (grd (ze9 (fop BinOp.sub FloatKind.f64 (fcvV FloatKind.f32 FloatKind.f64 x) (za4 (fop BinOp.add FloatKind.f64 (fcvV FloatKind.f32 FloatKind.f64 x) 4602678819172646912)))) (br (fcmp BinOp.geq FloatKind.f32 (zbj (fop BinOp.sub FloatKind.f64 (fcvV FloatKind.f32 FloatKind.f64 x) (za4 (fop BinOp.add FloatKind.f64 (fcvV FloatKind.f32 FloatKind.f64 x) 4602678819172646912)))) 1056964608) (k_ 3204448256) (k_ (zbj (fop BinOp.sub FloatKind.f64 (fcvV FloatKind.f32 FloatKind.f64 x) (za4 (fop BinOp.add FloatKind.f64 (fcvV FloatKind.f32 FloatKind.f64 x) 4602678819172646912))))))))
noncomputable def ze5 (x : Nat) : Option (Nat) := zdm x (fun c0_ => some c0_)
theorem zql {R R' : Type} (o : Option R → Option R') (h0 : o none = none) (x : Nat) (k_ : Nat → Option R) : zdm x (fun c0_ => o (k_ c0_)) = o (zdm x k_) := by
  unfold zdm
  repeat (first | refine grd_out h0 ?_ | refine br_out ?_ ?_ | rfl | exact h0.symm)
noncomputable def zjm (x : Nat) : Bool := (ze5 x).isSome
noncomputable def z01 (x : Nat) : Nat := ((ze5 x).getD default)
theorem zt0 {x : Nat} {r : Nat} (h : ze5 x = some r) : zjm x = true ∧ z01 x = r := by
  unfold zjm z01
  rw [h]
  exact ⟨rfl, rfl⟩
noncomputable def z8y {R : Type} (t57 : Int) (b3 : List Nat) (q27 : Nat) (q24 : Nat) (t4 : Nat) (t58 : Int) (kn_ : Nat → Int → Option R) (k0_ : Unit → Option R) (k1_ : Nat → Int → Bool → Option R) : Option R := (br (ltI t58 t57) (grd (okIx t58 q27) (br (bnot (fcmp BinOp.gtr FloatKind.f32 (gF b3 (ixO 0 t58 3)) t4)) (k0_ ()) (br (bnot (fcmp BinOp.lss FloatKind.f32 (gF b3 (ixO 0 t58 3)) q24)) (k0_ ()) (grd (zcn (gF b3 (Nat.succ (ixO 0 t58 3)))) (br (bnot (zch (gF b3 (Nat.succ (ixO 0 t58 3))))) (k0_ ()) (grd (z5p (gF b3 (Nat.succ (Nat.succ (ixO 0 t58 3))))) (br (bnot (z53 (gF b3 (Nat.succ (Nat.succ (ixO 0 t58 3)))))) (k0_ ()) (kn_ (gF b3 (ixO 0 t58 3)) (addI IntKind.i64 t58 1))))))))) (k1_ t4 t58 (ltI t58 t57)))
theorem zpm {R R' : Type} (o : Option R → Option R') (h0 : o none = none) (t57 : Int) (b3 : List Nat) (q27 : Nat) (q24 : Nat) (t4 : Nat) (t58 : Int) (kn_ : Nat → Int → Option R) (k0_ : Unit → Option R) (k1_ : Nat → Int → Bool → Option R) : z8y t57 b3 q27 q24 t4 t58 (fun t4' t58' => o (kn_ t4' t58')) (fun _ => o (k0_ ())) (fun c0_ c1_ c2_ => o (k1_ c0_ c1_ c2_)) = o (z8y t57 b3 q27 q24 t4 t58 kn_ k0_ k1_) := by
  unfold z8y
  repeat (first | refine grd_out h0 ?_ | refine br_out ?_ ?_ | rfl | exact h0.symm)
noncomputable def z59 (t57 : Int) (b3 : List Nat) (q27 : Nat) (q24 : Nat) : Nat → Nat → Int → Option ((Unit) ⊕ (Nat × Int × Bool))
  | 0, _, _ => none
  | n + 1, t4, t58 => z8y t57 b3 q27 q24  t4 t58  (fun t4' t58' => z59 t57 b3 q27 q24 n t4' t58') (fun _ => some (Sum.inl ())) (fun c0_ c1_ c2_ => some (Sum.inr (c0_, c1_, c2_)))
theorem zkg (t57 : Int) (b3 : List Nat) (q27 : Nat) (q24 : Nat) (n : Nat) (t4 : Nat) (t58 : Int) : z59 t57 b3 q27 q24 (n + 1) t4 t58 = z8y t57 b3 q27 q24  t4 t58  (fun t4' t58' => z59 t57 b3 q27 q24 n t4' t58') (fun _ => some (Sum.inl ())) (fun c0_ c1_ c2_ => some (Sum.inr (c0_, c1_, c2_))) := rfl
noncomputable def zaq (t57 : Int) (b3 : List Nat) (q27 : Nat) (q24 : Nat) (t4 : Nat) (t58 : Int) : Bool := (z59 t57 b3 q27 q24 big t4 t58).isSome
noncomputable def za8 (t57 : Int) (b3 : List Nat) (q27 : Nat) (q24 : Nat) (t4 : Nat) (t58 : Int) : Bool := oL (z59 t57 b3 q27 q24 big t4 t58)
noncomputable def zjc (t57 : Int) (b3 : List Nat) (q27 : Nat) (q24 : Nat) (t4 : Nat) (t58 : Int) : Nat := ((tR (z59 t57 b3 q27 q24 big t4 t58)).getD default).1
noncomputable def zjd (t57 : Int) (b3 : List Nat) (q27 : Nat) (q24 : Nat) (t4 : Nat) (t58 : Int) : Int := ((tR (z59 t57 b3 q27 q24 big t4 t58)).getD default).2.1
noncomputable def zja (t57 : Int) (b3 : List Nat) (q27 : Nat) (q24 : Nat) (t4 : Nat) (t58 : Int) : Bool := ((tR (z59 t57 b3 q27 q24 big t4 t58)).getD default).2.2
theorem zrd {t57 : Int} {b3 : List Nat} {q27 : Nat} {q24 : Nat} {t4 : Nat} {t58 : Int} {m : Nat} {r : Unit} (hm : m = big) (h : z59 t57 b3 q27 q24 m t4 t58 = some (Sum.inl r)) : zaq t57 b3 q27 q24 t4 t58 = true ∧ za8 t57 b3 q27 q24 t4 t58 = true := by
  subst hm
  unfold zaq za8
  rw [h]
  exact ⟨rfl, rfl⟩
theorem zrq {t57 : Int} {b3 : List Nat} {q27 : Nat} {q24 : Nat} {t4 : Nat} {t58 : Int} {m : Nat} {r : Nat × Int × Bool} (hm : m = big) (h : z59 t57 b3 q27 q24 m t4 t58 = some (Sum.inr r)) : zaq t57 b3 q27 q24 t4 t58 = true ∧ za8 t57 b3 q27 q24 t4 t58 = false ∧ zjc t57 b3 q27 q24 t4 t58 = r.1 ∧ zjd t57 b3 q27 q24 t4 t58 = r.2.1 ∧ zja t57 b3 q27 q24 t4 t58 = r.2.2 := by
  subst hm
  unfold zaq za8 zjc zjd zja
  rw [h]
  exact ⟨rfl, rfl, rfl, rfl, rfl⟩
noncomputable def zcc {R : Type} (q1m : Nat) (q1y : List Nat) (k_ : Bool → Option R) : Option R := (grd (z6v q1m (pF q1y 0 (muN q1m 1))) (k_ (bnot (z6s q1m (pF q1y 0 (muN q1m 1))))))
noncomputable def zbx (q1m : Nat) (q1y : List Nat) : Option (Bool) := zcc q1m q1y (fun c0_ => some c0_)
theorem zoj {R R' : Type} (o : Option R → Option R') (h0 : o none = none) (q1m : Nat) (q1y : List Nat) (k_ : Bool → Option R) : zcc q1m q1y (fun c0_ => o (k_ c0_)) = o (zcc q1m q1y k_) := by
  unfold zcc
  repeat (first | refine grd_out h0 ?_ | refine br_out ?_ ?_ | rfl | exact h0.symm)
noncomputable def zi2 (q1m : Nat) (q1y : List Nat) : Bool := (zbx q1m q1y).isSome
noncomputable def zgr (q1m : Nat) (q1y : List Nat) : Bool := ((zbx q1m q1y).getD default)
theorem zra {q1m : Nat} {q1y : List Nat} {r : Bool} (h : zbx q1m q1y = some r) : zi2 q1m q1y = true ∧ zgr q1m q1y = r := by
  unfold zi2 zgr
  rw [h]
  exact ⟨rfl, rfl⟩
noncomputable def zad {R : Type} (q1m : Nat) (q1y : List Nat) (k_ : Bool → Option R) : Option R := (grd (z6n q1m (pF q1y 0 (muN q1m 1))) (k_ (bnot (z6h q1m (pF q1y 0 (muN q1m 1))))))
noncomputable def z8g (q1m : Nat) (q1y : List Nat) : Option (Bool) := zad q1m q1y (fun c0_ => some c0_)
theorem zn6 {R R' : Type} (o : Option R → Option R') (h0 : o none = none) (q1m : Nat) (q1y : List Nat) (k_ : Bool → Option R) : zad q1m q1y (fun c0_ => o (k_ c0_)) = o (zad q1m q1y k_) := by
  unfold zad
  repeat (first | refine grd_out h0 ?_ | refine br_out ?_ ?_ | rfl | exact h0.symm)
noncomputable def zaj (q1m : Nat) (q1y : List Nat) : Bool := (z8g q1m q1y).isSome
noncomputable def z9z (q1m : Nat) (q1y : List Nat) : Bool := ((z8g q1m q1y).getD default)
theorem zkr {q1m : Nat} {q1y : List Nat} {r : Bool} (h : z8g q1m q1y = some r) : zaj q1m q1y = true ∧ z9z q1m q1y = r := by
  unfold zaj z9z
  rw [h]
  exact ⟨rfl, rfl⟩
noncomputable def zd0 {R : Type} (q1m : Nat) (q1y : List Nat) (k_ : Bool → Option R) : Option R := (grd (z74 q1m (pF q1y 0 (muN q1m 1))) (k_ (bnot (z6t q1m (pF q1y 0 (muN q1m 1))))))
noncomputable def zcu (q1m : Nat) (q1y : List Nat) : Option (Bool) := zd0 q1m q1y (fun c0_ => some c0_)
theorem zpk {R R' : Type} (o : Option R → Option R') (h0 : o none = none) (q1m : Nat) (q1y : List Nat) (k_ : Bool → Option R) : zd0 q1m q1y (fun c0_ => o (k_ c0_)) = o (zd0 q1m q1y k_) := by
  unfold zd0
  repeat (first | refine grd_out h0 ?_ | refine br_out ?_ ?_ | rfl | exact h0.symm)
noncomputable def ziz (q1m : Nat) (q1y : List Nat) : Bool := (zcu q1m q1y).isSome
noncomputable def zi9 (q1m : Nat) (q1y : List Nat) : Bool := ((zcu q1m q1y).getD default)
theorem zry {q1m : Nat} {q1y : List Nat} {r : Bool} (h : zcu q1m q1y = some r) : ziz q1m q1y = true ∧ zi9 q1m q1y = r := by
  unfold ziz zi9
  rw [h]
  exact ⟨rfl, rfl⟩
noncomputable def zcb {R : Type} (x : Nat) (k_ : Nat → Option R) : Option R := (grd (z6z x) (br (bnot (z6j x)) (grd zkc (grd (fcvB FloatKind.f64 FloatKind.f32 zij) (k_ (fcvV FloatKind.f64 FloatKind.f32 zij)))) (grd (zk5 (fcvV FloatKind.f32 FloatKind.f64 x)) (br (zjs (fcvV FloatKind.f32 FloatKind.f64 x)) (k_ 0) (grd (zkt (fcvV FloatKind.f32 FloatKind.f64 x)) (grd (fcvB FloatKind.f64 FloatKind.f32 (zje (fcvV FloatKind.f32 FloatKind.f64 x))) (k_ (fcvV FloatKind.f64 FloatKind.f32 (zje (fcvV FloatKind.f32 FloatKind.f64 x))))))))))
noncomputable def zcg (x : Nat) : Option (Nat) := zcb x (fun c0_ => some c0_)
theorem zol {R R' : Type} (o : Option R → Option R') (h0 : o none = none) (x : Nat) (k_ : Nat → Option R) : zcb x (fun c0_ => o (k_ c0_)) = o (zcb x k_) := by
  unfold zcb
  repeat (first | refine grd_out h0 ?_ | refine br_out ?_ ?_ | rfl | exact h0.symm)
noncomputable def z87 (x : Nat) : Bool := (zcg x).isSome
noncomputable def z5s (x : Nat) : Nat := ((zcg x).getD default)
theorem zb2 {x : Nat} {r : Nat} (h : zcg x = some r) : z87 x = true ∧ z5s x = r := by
  unfold z87 z5s
  rw [h]
  exact ⟨rfl, rfl⟩
noncomputable def zh5 {R : Type} (q10 : Nat) (q15 : List Nat) (q13 : Nat) (q19 : List Nat) (q14 : Nat) (q18 : List Nat) (q1a : Nat) (q1l : List Nat) (q1q : Int) (q1u : Nat) (q1v : Nat) (k_ : Bool → Option R) : Option R := (grd (zki q10 (pF q15 0 (muN q10 1)) q13 (pF q19 0 (muN q13 1)) q14 (pF q18 0 (muN q14 1))) (br (bnot (zk2 q10 (pF q15 0 (muN q10 1)) q13 (pF q19 0 (muN q13 1)) q14 (pF q18 0 (muN q14 1)))) (k_ Bool.false) (br (ltI (Int.ofNat q1a) 2) (k_ Bool.false) (br (ltI 12 (Int.ofNat q1a)) (k_ Bool.false) (grd (zj6 q1q 1 6) (br (bnot (zic q1q 1 6)) (k_ Bool.false) (grd (z9r q1u) (br (bnot (z98 q1u)) (k_ Bool.false) (grd (z5p q1v) (br (bnot (z53 q1v)) (k_ Bool.false) (grd (zaq (Int.ofNat q1a) q1l q1a q1v q1u 0) (br (za8 (Int.ofNat q1a) q1l q1a q1v q1u 0) (k_ Bool.false) (k_ Bool.true)))))))))))))
noncomputable def zh9 (q10 : Nat) (q15 : List Nat) (q13 : Nat) (q19 : List Nat) (q14 : Nat) (q18 : List Nat) (q1a : Nat) (q1l : List Nat) (q1q : Int) (q1u : Nat) (q1v : Nat) : Option (Bool) := zh5 q10 q15 q13 q19 q14 q18 q1a q1l q1q q1u q1v (fun c0_ => some c0_)
theorem zsk {R R' : Type} (o : Option R → Option R') (h0 : o none = none) (q10 : Nat) (q15 : List Nat) (q13 : Nat) (q19 : List Nat) (q14 : Nat) (q18 : List Nat) (q1a : Nat) (q1l : List Nat) (q1q : Int) (q1u : Nat) (q1v : Nat) (k_ : Bool → Option R) : zh5 q10 q15 q13 q19 q14 q18 q1a q1l q1q q1u q1v (fun c0_ => o (k_ c0_)) = o (zh5 q10 q15 q13 q19 q14 q18 q1a q1l q1q q1u q1v k_) := by
  unfold zh5
  repeat (first | refine grd_out h0 ?_ | refine br_out ?_ ?_ | rfl | exact h0.symm)
noncomputable def zkk (q10 : Nat) (q15 : List Nat) (q13 : Nat) (q19 : List Nat) (q14 : Nat) (q18 : List Nat) (q1a : Nat) (q1l : List Nat) (q1q : Int) (q1u : Nat) (q1v : Nat) : Bool := (zh9 q10 q15 q13 q19 q14 q18 q1a q1l q1q q1u q1v).isSome
noncomputable def zk4 (q10 : Nat) (q15 : List Nat) (q13 : Nat) (q19 : List Nat) (q14 : Nat) (q18 : List Nat) (q1a : Nat) (q1l : List Nat) (q1q : Int) (q1u : Nat) (q1v : Nat) : Bool := ((zh9 q10 q15 q13 q19 q14 q18 q1a q1l q1q q1u q1v).getD default)
theorem zu2 {q10 : Nat} {q15 : List Nat} {q13 : Nat} {q19 : List Nat} {q14 : Nat} {q18 : List Nat} {q1a : Nat} {q1l : List Nat} {q1q : Int} {q1u : Nat} {q1v : Nat} {r : Bool} (h : zh9 q10 q15 q13 q19 q14 q18 q1a q1l q1q q1u q1v = some r) : zkk q10 q15 q13 q19 q14 q18 q1a q1l q1q q1u q1v = true ∧ zk4 q10 q15 q13 q19 q14 q18 q1a q1l q1q q1u q1v = r := by
  unfold zkk zk4
  rw [h]
  exact ⟨rfl, rfl⟩
noncomputable def z90 {R : Type} (q00 : Nat) (q03 : List Nat) (q02 : Nat) (q05 : List Nat) (q01 : Nat) (q04 : List Nat) (q06 : Nat) (q09 : List Nat) (q0e : Int) (q0h : Nat) (q0g : Nat) (i : Int) (q0z : Nat) (k_ : Nat → Option R) : Option R := (grd (okIx i q06) (grd (z87 q0z) (k_ (fop BinOp.quo FloatKind.f32 (fop BinOp.quo FloatKind.f32 (fop BinOp.mul FloatKind.f32 (fOI FloatKind.f32 q0e) (fop BinOp.sub FloatKind.f32 q0g (gF q09 (ixO 0 i 3)))) (fop BinOp.mul FloatKind.f32 1073741824 (gF q09 (ixO 0 i 3)))) (fop BinOp.add FloatKind.f32 (fop BinOp.quo FloatKind.f32 (fop BinOp.mul FloatKind.f32 (fOI FloatKind.f32 q0e) (fop BinOp.sub FloatKind.f32 q0g (gF q09 (ixO 0 i 3)))) (fop BinOp.mul FloatKind.f32 1073741824 (gF q09 (ixO 0 i 3)))) (z5s q0z))))))
noncomputable def z8z (q00 : Nat) (q03 : List Nat) (q02 : Nat) (q05 : List Nat) (q01 : Nat) (q04 : List Nat) (q06 : Nat) (q09 : List Nat) (q0e : Int) (q0h : Nat) (q0g : Nat) (i : Int) (q0z : Nat) : Option (Nat) := z90 q00 q03 q02 q05 q01 q04 q06 q09 q0e q0h q0g i q0z (fun c0_ => some c0_)
theorem zlj {R R' : Type} (o : Option R → Option R') (h0 : o none = none) (q00 : Nat) (q03 : List Nat) (q02 : Nat) (q05 : List Nat) (q01 : Nat) (q04 : List Nat) (q06 : Nat) (q09 : List Nat) (q0e : Int) (q0h : Nat) (q0g : Nat) (i : Int) (q0z : Nat) (k_ : Nat → Option R) : z90 q00 q03 q02 q05 q01 q04 q06 q09 q0e q0h q0g i q0z (fun c0_ => o (k_ c0_)) = o (z90 q00 q03 q02 q05 q01 q04 q06 q09 q0e q0h q0g i q0z k_) := by
  unfold z90
  repeat (first | refine grd_out h0 ?_ | refine br_out ?_ ?_ | rfl | exact h0.symm)
noncomputable def zcx (q00 : Nat) (q03 : List Nat) (q02 : Nat) (q05 : List Nat) (q01 : Nat) (q04 : List Nat) (q06 : Nat) (q09 : List Nat) (q0e : Int) (q0h : Nat) (q0g : Nat) (i : Int) (q0z : Nat) : Bool := (z8z q00 q03 q02 q05 q01 q04 q06 q09 q0e q0h q0g i q0z).isSome
noncomputable def za2 (q00 : Nat) (q03 : List Nat) (q02 : Nat) (q05 : List Nat) (q01 : Nat) (q04 : List Nat) (q06 : Nat) (q09 : List Nat) (q0e : Int) (q0h : Nat) (q0g : Nat) (i : Int) (q0z : Nat) : Nat := ((z8z q00 q03 q02 q05 q01 q04 q06 q09 q0e q0h q0g i q0z).getD default)
theorem zmy {q00 : Nat} {q03 : List Nat} {q02 : Nat} {q05 : List Nat} {q01 : Nat} {q04 : List Nat} {q06 : Nat} {q09 : List Nat} {q0e : Int} {q0h : Nat} {q0g : Nat} {i : Int} {q0z : Nat} {r : Nat} (h : z8z q00 q03 q02 q05 q01 q04 q06 q09 q0e q0h q0g i q0z = some r) : zcx q00 q03 q02 q05 q01 q04 q06 q09 q0e q0h q0g i q0z = true ∧ za2 q00 q03 q02 q05 q01 q04 q06 q09 q0e q0h q0g i q0z = r := by
  unfold zcx za2
  rw [h]
  exact ⟨rfl, rfl⟩
noncomputable def zb7 {R : Type} (q00 : Nat) (q03 : List Nat) (q02 : Nat) (q05 : List Nat) (q01 : Nat) (q04 : List Nat) (q06 : Nat) (q09 : List Nat) (q0e : Int) (q0h : Nat) (q0g : Nat) (i : Int) (k_ : Bool → Option R) : Option R := (grd (zkk q00 (pF q03 0 (muN q00 1)) q02 (pF q05 0 (muN q02 1)) q01 (pF q04 0 (muN q01 1)) q06 (pF q09 0 (muN q06 3)) q0e q0h q0g) (br (zk4 q00 (pF q03 0 (muN q00 1)) q02 (pF q05 0 (muN q02 1)) q01 (pF q04 0 (muN q01 1)) q06 (pF q09 0 (muN q06 3)) q0e q0h q0g) (grd (zj6 i 0 (subI IntKind.i64 (Int.ofNat q06) 1)) (k_ (zic i 0 (subI IntKind.i64 (Int.ofNat q06) 1)))) (k_ Bool.false)))
noncomputable def zba (q00 : Nat) (q03 : List Nat) (q02 : Nat) (q05 : List Nat) (q01 : Nat) (q04 : List Nat) (q06 : Nat) (q09 : List Nat) (q0e : Int) (q0h : Nat) (q0g : Nat) (i : Int) : Option (Bool) := zb7 q00 q03 q02 q05 q01 q04 q06 q09 q0e q0h q0g i (fun c0_ => some c0_)
theorem zo3 {R R' : Type} (o : Option R → Option R') (h0 : o none = none) (q00 : Nat) (q03 : List Nat) (q02 : Nat) (q05 : List Nat) (q01 : Nat) (q04 : List Nat) (q06 : Nat) (q09 : List Nat) (q0e : Int) (q0h : Nat) (q0g : Nat) (i : Int) (k_ : Bool → Option R) : zb7 q00 q03 q02 q05 q01 q04 q06 q09 q0e q0h q0g i (fun c0_ => o (k_ c0_)) = o (zb7 q00 q03 q02 q05 q01 q04 q06 q09 q0e q0h q0g i k_) := by
  unfold zb7
  repeat (first | refine grd_out h0 ?_ | refine br_out ?_ ?_ | rfl | exact h0.symm)
noncomputable def zgf (q00 : Nat) (q03 : List Nat) (q02 : Nat) (q05 : List Nat) (q01 : Nat) (q04 : List Nat) (q06 : Nat) (q09 : List Nat) (q0e : Int) (q0h : Nat) (q0g : Nat) (i : Int) : Bool := (zba q00 q03 q02 q05 q01 q04 q06 q09 q0e q0h q0g i).isSome
noncomputable def zfq (q00 : Nat) (q03 : List Nat) (q02 : Nat) (q05 : List Nat) (q01 : Nat) (q04 : List Nat) (q06 : Nat) (q09 : List Nat) (q0e : Int) (q0h : Nat) (q0g : Nat) (i : Int) : Bool := ((zba q00 q03 q02 q05 q01 q04 q06 q09 q0e q0h q0g i).getD default)
theorem zq7 {q00 : Nat} {q03 : List Nat} {q02 : Nat} {q05 : List Nat} {q01 : Nat} {q04 : List Nat} {q06 : Nat} {q09 : List Nat} {q0e : Int} {q0h : Nat} {q0g : Nat} {i : Int} {r : Bool} (h : zba q00 q03 q02 q05 q01 q04 q06 q09 q0e q0h q0g i = some r) : zgf q00 q03 q02 q05 q01 q04 q06 q09 q0e q0h q0g i = true ∧ zfq q00 q03 q02 q05 q01 q04 q06 q09 q0e q0h q0g i = r := by
  unfold zgf zfq
  rw [h]
  exact ⟨rfl, rfl⟩
noncomputable def z1a {R : Type} (sn : Nat) (t7 : Int) (b0 : List Nat) (b4 : Nat) (t8 : Int) (kn_ : Int → Option R) (k0_ : Int → Option R) (k1_ : Int → Bool → Option R) : Option R := (br (ltI t8 t7) (grd (okIx t8 sn) (br (fcmp BinOp.gtr FloatKind.f32 (gF b0 (ixO 0 t8 1)) b4) (k0_ t8) (kn_ (addI IntKind.i64 t8 1)))) (k1_ t8 (ltI t8 t7)))
theorem zdp {R R' : Type} (o : Option R → Option R') (h0 : o none = none) (sn : Nat) (t7 : Int) (b0 : List Nat) (b4 : Nat) (t8 : Int) (kn_ : Int → Option R) (k0_ : Int → Option R) (k1_ : Int → Bool → Option R) : z1a sn t7 b0 b4 t8 (fun t8' => o (kn_ t8')) (fun c0_ => o (k0_ c0_)) (fun c0_ c1_ => o (k1_ c0_ c1_)) = o (z1a sn t7 b0 b4 t8 kn_ k0_ k1_) := by
  unfold z1a
  repeat (first | refine grd_out h0 ?_ | refine br_out ?_ ?_ | rfl | exact h0.symm)
noncomputable def z0c (sn : Nat) (t7 : Int) (b0 : List Nat) (b4 : Nat) : Nat → Int → Option ((Int) ⊕ (Int × Bool))
  | 0, _ => none
  | n + 1, t8 => z1a sn t7 b0 b4  t8  (fun t8' => z0c sn t7 b0 b4 n t8') (fun c0_ => some (Sum.inl c0_)) (fun c0_ c1_ => some (Sum.inr (c0_, c1_)))
theorem z8x (sn : Nat) (t7 : Int) (b0 : List Nat) (b4 : Nat) (n : Nat) (t8 : Int) : z0c sn t7 b0 b4 (n + 1) t8 = z1a sn t7 b0 b4  t8  (fun t8' => z0c sn t7 b0 b4 n t8') (fun c0_ => some (Sum.inl c0_)) (fun c0_ c1_ => some (Sum.inr (c0_, c1_))) := rfl
noncomputable def z3u (sn : Nat) (t7 : Int) (b0 : List Nat) (b4 : Nat) (t8 : Int) : Bool := (z0c sn t7 b0 b4 big t8).isSome
noncomputable def z3p (sn : Nat) (t7 : Int) (b0 : List Nat) (b4 : Nat) (t8 : Int) : Bool := oL (z0c sn t7 b0 b4 big t8)
noncomputable def z0q (sn : Nat) (t7 : Int) (b0 : List Nat) (b4 : Nat) (t8 : Int) : Int := ((tL (z0c sn t7 b0 b4 big t8)).getD default)
noncomputable def z7l (sn : Nat) (t7 : Int) (b0 : List Nat) (b4 : Nat) (t8 : Int) : Int := ((tR (z0c sn t7 b0 b4 big t8)).getD default).1
noncomputable def z7k (sn : Nat) (t7 : Int) (b0 : List Nat) (b4 : Nat) (t8 : Int) : Bool := ((tR (z0c sn t7 b0 b4 big t8)).getD default).2
theorem zek {sn : Nat} {t7 : Int} {b0 : List Nat} {b4 : Nat} {t8 : Int} {m : Nat} {r : Int} (hm : m = big) (h : z0c sn t7 b0 b4 m t8 = some (Sum.inl r)) : z3u sn t7 b0 b4 t8 = true ∧ z3p sn t7 b0 b4 t8 = true ∧ z0q sn t7 b0 b4 t8 = r := by
  subst hm
  unfold z3u z3p z0q
  rw [h]
  exact ⟨rfl, rfl, rfl⟩
theorem zej {sn : Nat} {t7 : Int} {b0 : List Nat} {b4 : Nat} {t8 : Int} {m : Nat} {r : Int × Bool} (hm : m = big) (h : z0c sn t7 b0 b4 m t8 = some (Sum.inr r)) : z3u sn t7 b0 b4 t8 = true ∧ z3p sn t7 b0 b4 t8 = false ∧ z7l sn t7 b0 b4 t8 = r.1 ∧ z7k sn t7 b0 b4 t8 = r.2 := by
  subst hm
  unfold z3u z3p z7l z7k
  rw [h]
  exact ⟨rfl, rfl, rfl, rfl⟩
noncomputable def z8b {R : Type} (t8 : Nat) (b0 : List Nat) (q1h : Nat) (t10 : Int) (kn_ : Int → Option R) (k0_ : Int → Bool → Option R) : Option R := (br (leI 0 t10) (grd (okIx t10 q1h) (br (fcmp BinOp.gtr FloatKind.f32 (gF b0 (ixO 0 t10 1)) t8) (kn_ (subI IntKind.i64 t10 1)) (k0_ t10 (fcmp BinOp.gtr FloatKind.f32 (gF b0 (ixO 0 t10 1)) t8)))) (k0_ t10 Bool.false))
theorem znr {R R' : Type} (o : Option R → Option R') (h0 : o none = none) (t8 : Nat) (b0 : List Nat) (q1h : Nat) (t10 : Int) (kn_ : Int → Option R) (k0_ : Int → Bool → Option R) : z8b t8 b0 q1h t10 (fun t10' => o (kn_ t10')) (fun c0_ c1_ => o (k0_ c0_ c1_)) = o (z8b t8 b0 q1h t10 kn_ k0_) := by
  unfold z8b
  repeat (first | refine grd_out h0 ?_ | refine br_out ?_ ?_ | rfl | exact h0.symm)
noncomputable def z6l (t8 : Nat) (b0 : List Nat) (q1h : Nat) : Nat → Int → Option ((Int × Bool))
  | 0, _ => none
  | n + 1, t10 => z8b t8 b0 q1h  t10  (fun t10' => z6l t8 b0 q1h n t10') (fun c0_ c1_ => some (c0_, c1_))
theorem zjz (t8 : Nat) (b0 : List Nat) (q1h : Nat) (n : Nat) (t10 : Int) : z6l t8 b0 q1h (n + 1) t10 = z8b t8 b0 q1h  t10  (fun t10' => z6l t8 b0 q1h n t10') (fun c0_ c1_ => some (c0_, c1_)) := rfl
noncomputable def zgs (t8 : Nat) (b0 : List Nat) (q1h : Nat) (t10 : Int) : Bool := (z6l t8 b0 q1h big t10).isSome
noncomputable def z00 (t8 : Nat) (b0 : List Nat) (q1h : Nat) (t10 : Int) : Int := ((z6l t8 b0 q1h big t10).getD default).1
noncomputable def zi0 (t8 : Nat) (b0 : List Nat) (q1h : Nat) (t10 : Int) : Bool := ((z6l t8 b0 q1h big t10).getD default).2
theorem zkm {t8 : Nat} {b0 : List Nat} {q1h : Nat} {t10 : Int} {m : Nat} {r : Int × Bool} (hm : m = big) (h : z6l t8 b0 q1h m t10 = some r) : zgs t8 b0 q1h t10 = true ∧ z00 t8 b0 q1h t10 = r.1 ∧ zi0 t8 b0 q1h t10 = r.2 := by
  subst hm
  unfold zgs z00 zi0
  rw [h]
  exact ⟨rfl, rfl, rfl⟩
noncomputable def zf2 {R : Type} (q00 : Nat) (q03 : List Nat) (q02 : Nat) (q05 : List Nat) (q01 : Nat) (q04 : List Nat) (q06 : Nat) (q09 : List Nat) (q0e : Int) (q0h : Nat) (q0g : Nat) (i : Int) (q1s : Nat) (q1k : Nat) (q0q : Nat) (k_ : Bool → Option R) : Option R := (grd (zgf q00 (pF q03 0 (muN q00 1)) q02 (pF q05 0 (muN q02 1)) q01 (pF q04 0 (muN q01 1)) q06 (pF q09 0 (muN q06 3)) q0e q0h q0g i) (br (zfq q00 (pF q03 0 (muN q00 1)) q02 (pF q05 0 (muN q02 1)) q01 (pF q04 0 (muN q01 1)) q06 (pF q09 0 (muN q06 3)) q0e q0h q0g i) (grd (zcn q1s) (br (zch q1s) (grd (zcn q1k) (br (zch q1k) (grd (z5p q0q) (br (z53 q0q) (grd (zis q00 (pF q03 0 (muN q00 1)) q02 (pF q05 0 (muN q02 1)) q01 (pF q04 0 (muN q01 1)) q06 (pF q09 0 (muN q06 3)) q0e q0h q0g i q0q) (k_ (zib q00 (pF q03 0 (muN q00 1)) q02 (pF q05 0 (muN q02 1)) q01 (pF q04 0 (muN q01 1)) q06 (pF q09 0 (muN q06 3)) q0e q0h q0g i q0q))) (k_ Bool.false))) (k_ Bool.false))) (k_ Bool.false))) (k_ Bool.false)))
noncomputable def zf3 (q00 : Nat) (q03 : List Nat) (q02 : Nat) (q05 : List Nat) (q01 : Nat) (q04 : List Nat) (q06 : Nat) (q09 : List Nat) (q0e : Int) (q0h : Nat) (q0g : Nat) (i : Int) (q1s : Nat) (q1k : Nat) (q0q : Nat) : Option (Bool) := zf2 q00 q03 q02 q05 q01 q04 q06 q09 q0e q0h q0g i q1s q1k q0q (fun c0_ => some c0_)
theorem zrc {R R' : Type} (o : Option R → Option R') (h0 : o none = none) (q00 : Nat) (q03 : List Nat) (q02 : Nat) (q05 : List Nat) (q01 : Nat) (q04 : List Nat) (q06 : Nat) (q09 : List Nat) (q0e : Int) (q0h : Nat) (q0g : Nat) (i : Int) (q1s : Nat) (q1k : Nat) (q0q : Nat) (k_ : Bool → Option R) : zf2 q00 q03 q02 q05 q01 q04 q06 q09 q0e q0h q0g i q1s q1k q0q (fun c0_ => o (k_ c0_)) = o (zf2 q00 q03 q02 q05 q01 q04 q06 q09 q0e q0h q0g i q1s q1k q0q k_) := by
  unfold zf2
  repeat (first | refine grd_out h0 ?_ | refine br_out ?_ ?_ | rfl | exact h0.symm)
noncomputable def zk1 (q00 : Nat) (q03 : List Nat) (q02 : Nat) (q05 : List Nat) (q01 : Nat) (q04 : List Nat) (q06 : Nat) (q09 : List Nat) (q0e : Int) (q0h : Nat) (q0g : Nat) (i : Int) (q1s : Nat) (q1k : Nat) (q0q : Nat) : Bool := (zf3 q00 q03 q02 q05 q01 q04 q06 q09 q0e q0h q0g i q1s q1k q0q).isSome
noncomputable def zjo (q00 : Nat) (q03 : List Nat) (q02 : Nat) (q05 : List Nat) (q01 : Nat) (q04 : List Nat) (q06 : Nat) (q09 : List Nat) (q0e : Int) (q0h : Nat) (q0g : Nat) (i : Int) (q1s : Nat) (q1k : Nat) (q0q : Nat) : Bool := ((zf3 q00 q03 q02 q05 q01 q04 q06 q09 q0e q0h q0g i q1s q1k q0q).getD default)
theorem ztm {q00 : Nat} {q03 : List Nat} {q02 : Nat} {q05 : List Nat} {q01 : Nat} {q04 : List Nat} {q06 : Nat} {q09 : List Nat} {q0e : Int} {q0h : Nat} {q0g : Nat} {i : Int} {q1s : Nat} {q1k : Nat} {q0q : Nat} {r : Bool} (h : zf3 q00 q03 q02 q05 q01 q04 q06 q09 q0e q0h q0g i q1s q1k q0q = some r) : zk1 q00 q03 q02 q05 q01 q04 q06 q09 q0e q0h q0g i q1s q1k q0q = true ∧ zjo q00 q03 q02 q05 q01 q04 q06 q09 q0e q0h q0g i q1s q1k q0q = r := by
  unfold zk1 zjo
  rw [h]
  exact ⟨rfl, rfl⟩
noncomputable def z84 {R : Type} (q07 : Nat) (q0c : List Nat) (q0o : Nat) (q0u : List Nat) (q0n : Nat) (q0v : List Nat) (x1 : Nat) (k_ : Int → Int → Nat → Nat → Nat → Option R) : Option R := (grd (zhy x1) (grd (z3u q07 (Int.ofNat q07) q0c (z38 x1) 0) (br (z3p q07 (Int.ofNat q07) q0c (z38 x1) 0) (br (eqI (z0q q07 (Int.ofNat q07) q0c (z38 x1) 0) 0) (grd (okIx (subI IntKind.i64 (Int.ofNat q07) 1) q07) (grd (okIx 0 q07) (k_ (subI IntKind.i64 (Int.ofNat q07) 1) 0 (fop BinOp.sub FloatKind.f32 (gF q0c (ixO 0 (subI IntKind.i64 (Int.ofNat q07) 1) 1)) 1065353216) (gF q0c (ixO 0 0 1)) (z38 x1)))) (br (ltI (z0q q07 (Int.ofNat q07) q0c (z38 x1) 0) 0) (grd (okIx (subI IntKind.i64 (Int.ofNat q07) 1) q07) (grd (okIx 0 q07) (k_ (subI IntKind.i64 (Int.ofNat q07) 1) 0 (gF q0c (ixO 0 (subI IntKind.i64 (Int.ofNat q07) 1) 1)) (fop BinOp.add FloatKind.f32 (gF q0c (ixO 0 0 1)) 1065353216) (z38 x1)))) (grd (okIx (subI IntKind.i64 (z0q q07 (Int.ofNat q07) q0c (z38 x1) 0) 1) q07) (grd (okIx (z0q q07 (Int.ofNat q07) q0c (z38 x1) 0) q07) (k_ (subI IntKind.i64 (z0q q07 (Int.ofNat q07) q0c (z38 x1) 0) 1) (z0q q07 (Int.ofNat q07) q0c (z38 x1) 0) (gF q0c (ixO 0 (subI IntKind.i64 (z0q q07 (Int.ofNat q07) q0c (z38 x1) 0) 1) 1)) (gF q0c (ixO 0 (z0q q07 (Int.ofNat q07) q0c (z38 x1) 0) 1)) (z38 x1)))))) (br (eqI (Int.negSucc 0) 0) (grd (okIx (subI IntKind.i64 (Int.ofNat q07) 1) q07) (grd (okIx 0 q07) (k_ (subI IntKind.i64 (Int.ofNat q07) 1) 0 (fop BinOp.sub FloatKind.f32 (gF q0c (ixO 0 (subI IntKind.i64 (Int.ofNat q07) 1) 1)) 1065353216) (gF q0c (ixO 0 0 1)) (z38 x1)))) (br (ltI (Int.negSucc 0) 0) (grd (okIx (subI IntKind.i64 (Int.ofNat q07) 1) q07) (grd (okIx 0 q07) (k_ (subI IntKind.i64 (Int.ofNat q07) 1) 0 (gF q0c (ixO 0 (subI IntKind.i64 (Int.ofNat q07) 1) 1)) (fop BinOp.add FloatKind.f32 (gF q0c (ixO 0 0 1)) 1065353216) (z38 x1)))) (grd (okIx (subI IntKind.i64 (Int.negSucc 0) 1) q07) (grd (okIx (Int.negSucc 0) q07) (k_ (subI IntKind.i64 (Int.negSucc 0) 1) (Int.negSucc 0) (gF q0c (ixO 0 (subI IntKind.i64 (Int.negSucc 0) 1) 1)) (gF q0c (ixO 0 (Int.negSucc 0) 1)) (z38 x1)))))))))
noncomputable def z5i (q07 : Nat) (q0c : List Nat) (q0o : Nat) (q0u : List Nat) (q0n : Nat) (q0v : List Nat) (x1 : Nat) : Option (Int × Int × Nat × Nat × Nat) := z84 q07 q0c q0o q0u q0n q0v x1 (fun c0_ c1_ c2_ c3_ c4_ => some (c0_, c1_, c2_, c3_, c4_))
theorem zl0 {R R' : Type} (o : Option R → Option R') (h0 : o none = none) (q07 : Nat) (q0c : List Nat) (q0o : Nat) (q0u : List Nat) (q0n : Nat) (q0v : List Nat) (x1 : Nat) (k_ : Int → Int → Nat → Nat → Nat → Option R) : z84 q07 q0c q0o q0u q0n q0v x1 (fun c0_ c1_ c2_ c3_ c4_ => o (k_ c0_ c1_ c2_ c3_ c4_)) = o (z84 q07 q0c q0o q0u q0n q0v x1 k_) := by
  unfold z84
  repeat (first | refine grd_out h0 ?_ | refine br_out ?_ ?_ | rfl | exact h0.symm)
noncomputable def zck (q07 : Nat) (q0c : List Nat) (q0o : Nat) (q0u : List Nat) (q0n : Nat) (q0v : List Nat) (x1 : Nat) : Bool := (z5i q07 q0c q0o q0u q0n q0v x1).isSome
noncomputable def z6b (q07 : Nat) (q0c : List Nat) (q0o : Nat) (q0u : List Nat) (q0n : Nat) (q0v : List Nat) (x1 : Nat) : Int := ((z5i q07 q0c q0o q0u q0n q0v x1).getD default).1
noncomputable def z6a (q07 : Nat) (q0c : List Nat) (q0o : Nat) (q0u : List Nat) (q0n : Nat) (q0v : List Nat) (x1 : Nat) : Int := ((z5i q07 q0c q0o q0u q0n q0v x1).getD default).2.1
noncomputable def z72 (q07 : Nat) (q0c : List Nat) (q0o : Nat) (q0u : List Nat) (q0n : Nat) (q0v : List Nat) (x1 : Nat) : Nat := ((z5i q07 q0c q0o q0u q0n q0v x1).getD default).2.2.1
noncomputable def z8j (q07 : Nat) (q0c : List Nat) (q0o : Nat) (q0u : List Nat) (q0n : Nat) (q0v : List Nat) (x1 : Nat) : Nat := ((z5i q07 q0c q0o q0u q0n q0v x1).getD default).2.2.2.1
noncomputable def z9j (q07 : Nat) (q0c : List Nat) (q0o : Nat) (q0u : List Nat) (q0n : Nat) (q0v : List Nat) (x1 : Nat) : Nat := ((z5i q07 q0c q0o q0u q0n q0v x1).getD default).2.2.2.2
theorem zmd {q07 : Nat} {q0c : List Nat} {q0o : Nat} {q0u : List Nat} {q0n : Nat} {q0v : List Nat} {x1 : Nat} {r : Int × Int × Nat × Nat × Nat} (h : z5i q07 q0c q0o q0u q0n q0v x1 = some r) : zck q07 q0c q0o q0u q0n q0v x1 = true ∧ z6b q07 q0c q0o q0u q0n q0v x1 = r.1 ∧ z6a q07 q0c q0o q0u q0n q0v x1 = r.2.1 ∧ z72 q07 q0c q0o q0u q0n q0v x1 = r.2.2.1 ∧ z8j q07 q0c q0o q0u q0n q0v x1 = r.2.2.2.1 ∧ z9j q07 q0c q0o q0u q0n q0v x1 = r.2.2.2.2 := by
  unfold zck z6b z6a z72 z8j z9j
  rw [h]
  exact ⟨rfl, rfl, rfl, rfl, rfl, rfl⟩
noncomputable def zbz {R : Type} (q07 : Nat) (q0c : List Nat) (q0o : Nat) (q0u : List Nat) (q0n : Nat) (q0v : List Nat) (x1 : Nat) (k_ : Int → Int → Nat → Nat → Option R) : Option R := (grd (zjm x1) (grd (zgs (z01 x1) q0c q07 (subI IntKind.i64 (Int.ofNat q07) 1)) (br (ltI (z00 (z01 x1) q0c q07 (subI IntKind.i64 (Int.ofNat q07) 1)) 0) (grd (okIx (subI IntKind.i64 (Int.ofNat q07) 1) q07) (grd (okIx 0 q07) (br (eqI 0 0) (br (fcmp BinOp.lss FloatKind.f32 (z01 x1) (gF q0c (ixO 0 0 1))) (br (fcmp BinOp.eql FloatKind.f32 (fop BinOp.sub FloatKind.f32 (gF q0c (ixO 0 0 1)) (fop BinOp.sub FloatKind.f32 (gF q0c (ixO 0 (subI IntKind.i64 (Int.ofNat q07) 1) 1)) 1065353216)) 0) (k_ (subI IntKind.i64 (Int.ofNat q07) 1) 0 0 (fop BinOp.sub FloatKind.f32 (gF q0c (ixO 0 0 1)) (fop BinOp.sub FloatKind.f32 (gF q0c (ixO 0 (subI IntKind.i64 (Int.ofNat q07) 1) 1)) 1065353216))) (k_ (subI IntKind.i64 (Int.ofNat q07) 1) 0 (fop BinOp.quo FloatKind.f32 (fop BinOp.sub FloatKind.f32 (z01 x1) (fop BinOp.sub FloatKind.f32 (gF q0c (ixO 0 (subI IntKind.i64 (Int.ofNat q07) 1) 1)) 1065353216)) (fop BinOp.sub FloatKind.f32 (gF q0c (ixO 0 0 1)) (fop BinOp.sub FloatKind.f32 (gF q0c (ixO 0 (subI IntKind.i64 (Int.ofNat q07) 1) 1)) 1065353216))) (fop BinOp.sub FloatKind.f32 (gF q0c (ixO 0 0 1)) (fop BinOp.sub FloatKind.f32 (gF q0c (ixO 0 (subI IntKind.i64 (Int.ofNat q07) 1) 1)) 1065353216)))) (br (eqI 0 0) (br (fcmp BinOp.eql FloatKind.f32 (fop BinOp.sub FloatKind.f32 (fop BinOp.add FloatKind.f32 (gF q0c (ixO 0 0 1)) 1065353216) (gF q0c (ixO 0 (subI IntKind.i64 (Int.ofNat q07) 1) 1))) 0) (k_ (subI IntKind.i64 (Int.ofNat q07) 1) 0 0 (fop BinOp.sub FloatKind.f32 (fop BinOp.add FloatKind.f32 (gF q0c (ixO 0 0 1)) 1065353216) (gF q0c (ixO 0 (subI IntKind.i64 (Int.ofNat q07) 1) 1)))) (k_ (subI IntKind.i64 (Int.ofNat q07) 1) 0 (fop BinOp.quo FloatKind.f32 (fop BinOp.sub FloatKind.f32 (z01 x1) (gF q0c (ixO 0 (subI IntKind.i64 (Int.ofNat q07) 1) 1))) (fop BinOp.sub FloatKind.f32 (fop BinOp.add FloatKind.f32 (gF q0c (ixO 0 0 1)) 1065353216) (gF q0c (ixO 0 (subI IntKind.i64 (Int.ofNat q07) 1) 1)))) (fop BinOp.sub FloatKind.f32 (fop BinOp.add FloatKind.f32 (gF q0c (ixO 0 0 1)) 1065353216) (gF q0c (ixO 0 (subI IntKind.i64 (Int.ofNat q07) 1) 1))))) (br (fcmp BinOp.eql FloatKind.f32 (fop BinOp.sub FloatKind.f32 (gF q0c (ixO 0 0 1)) (gF q0c (ixO 0 (subI IntKind.i64 (Int.ofNat q07) 1) 1))) 0) (k_ (subI IntKind.i64 (Int.ofNat q07) 1) 0 0 (fop BinOp.sub FloatKind.f32 (gF q0c (ixO 0 0 1)) (gF q0c (ixO 0 (subI IntKind.i64 (Int.ofNat q07) 1) 1)))) (k_ (subI IntKind.i64 (Int.ofNat q07) 1) 0 (fop BinOp.quo FloatKind.f32 (fop BinOp.sub FloatKind.f32 (z01 x1) (gF q0c (ixO 0 (subI IntKind.i64 (Int.ofNat q07) 1) 1))) (fop BinOp.sub FloatKind.f32 (gF q0c (ixO 0 0 1)) (gF q0c (ixO 0 (subI IntKind.i64 (Int.ofNat q07) 1) 1)))) (fop BinOp.sub FloatKind.f32 (gF q0c (ixO 0 0 1)) (gF q0c (ixO 0 (subI IntKind.i64 (Int.ofNat q07) 1) 1))))))) (br (eqI 0 0) (br (fcmp BinOp.eql FloatKind.f32 (fop BinOp.sub FloatKind.f32 (fop BinOp.add FloatKind.f32 (gF q0c (ixO 0 0 1)) 1065353216) (gF q0c (ixO 0 (subI IntKind.i64 (Int.ofNat q07) 1) 1))) 0) (k_ (subI IntKind.i64 (Int.ofNat q07) 1) 0 0 (fop BinOp.sub FloatKind.f32 (fop BinOp.add FloatKind.f32 (gF q0c (ixO 0 0 1)) 1065353216) (gF q0c (ixO 0 (subI IntKind.i64 (Int.ofNat q07) 1) 1)))) (k_ (subI IntKind.i64 (Int.ofNat q07) 1) 0 (fop BinOp.quo FloatKind.f32 (fop BinOp.sub FloatKind.f32 (z01 x1) (gF q0c (ixO 0 (subI IntKind.i64 (Int.ofNat q07) 1) 1))) (fop BinOp.sub FloatKind.f32 (fop BinOp.add FloatKind.f32 (gF q0c (ixO 0 0 1)) 1065353216) (gF q0c (ixO 0 (subI IntKind.i64 (Int.ofNat q07) 1) 1)))) (fop BinOp.sub FloatKind.f32 (fop BinOp.add FloatKind.f32 (gF q0c (ixO 0 0 1)) 1065353216) (gF q0c (ixO 0 (subI IntKind.i64 (Int.ofNat q07) 1) 1))))) (br (fcmp BinOp.eql FloatKind.f32 (fop BinOp.sub FloatKind.f32 (gF q0c (ixO 0 0 1)) (gF q0c (ixO 0 (subI IntKind.i64 (Int.ofNat q07) 1) 1))) 0) (k_ (subI IntKind.i64 (Int.ofNat q07) 1) 0 0 (fop BinOp.sub FloatKind.f32 (gF q0c (ixO 0 0 1)) (gF q0c (ixO 0 (subI IntKind.i64 (Int.ofNat q07) 1) 1)))) (k_ (subI IntKind.i64 (Int.ofNat q07) 1) 0 (fop BinOp.quo FloatKind.f32 (fop BinOp.sub FloatKind.f32 (z01 x1) (gF q0c (ixO 0 (subI IntKind.i64 (Int.ofNat q07) 1) 1))) (fop BinOp.sub FloatKind.f32 (gF q0c (ixO 0 0 1)) (gF q0c (ixO 0 (subI IntKind.i64 (Int.ofNat q07) 1) 1)))) (fop BinOp.sub FloatKind.f32 (gF q0c (ixO 0 0 1)) (gF q0c (ixO 0 (subI IntKind.i64 (Int.ofNat q07) 1) 1))))))))) (br (eqI (addI IntKind.i64 (z00 (z01 x1) q0c q07 (subI IntKind.i64 (Int.ofNat q07) 1)) 1) (Int.ofNat q07)) (grd (okIx (z00 (z01 x1) q0c q07 (subI IntKind.i64 (Int.ofNat q07) 1)) q07) (grd (okIx 0 q07) (br (eqI 0 0) (br (fcmp BinOp.lss FloatKind.f32 (z01 x1) (gF q0c (ixO 0 0 1))) (br (fcmp BinOp.eql FloatKind.f32 (fop BinOp.sub FloatKind.f32 (gF q0c (ixO 0 0 1)) (fop BinOp.sub FloatKind.f32 (gF q0c (ixO 0 (z00 (z01 x1) q0c q07 (subI IntKind.i64 (Int.ofNat q07) 1)) 1)) 1065353216)) 0) (k_ (z00 (z01 x1) q0c q07 (subI IntKind.i64 (Int.ofNat q07) 1)) 0 0 (fop BinOp.sub FloatKind.f32 (gF q0c (ixO 0 0 1)) (fop BinOp.sub FloatKind.f32 (gF q0c (ixO 0 (z00 (z01 x1) q0c q07 (subI IntKind.i64 (Int.ofNat q07) 1)) 1)) 1065353216))) (k_ (z00 (z01 x1) q0c q07 (subI IntKind.i64 (Int.ofNat q07) 1)) 0 (fop BinOp.quo FloatKind.f32 (fop BinOp.sub FloatKind.f32 (z01 x1) (fop BinOp.sub FloatKind.f32 (gF q0c (ixO 0 (z00 (z01 x1) q0c q07 (subI IntKind.i64 (Int.ofNat q07) 1)) 1)) 1065353216)) (fop BinOp.sub FloatKind.f32 (gF q0c (ixO 0 0 1)) (fop BinOp.sub FloatKind.f32 (gF q0c (ixO 0 (z00 (z01 x1) q0c q07 (subI IntKind.i64 (Int.ofNat q07) 1)) 1)) 1065353216))) (fop BinOp.sub FloatKind.f32 (gF q0c (ixO 0 0 1)) (fop BinOp.sub FloatKind.f32 (gF q0c (ixO 0 (z00 (z01 x1) q0c q07 (subI IntKind.i64 (Int.ofNat q07) 1)) 1)) 1065353216)))) (br (eqI 0 0) (br (fcmp BinOp.eql FloatKind.f32 (fop BinOp.sub FloatKind.f32 (fop BinOp.add FloatKind.f32 (gF q0c (ixO 0 0 1)) 1065353216) (gF q0c (ixO 0 (z00 (z01 x1) q0c q07 (subI IntKind.i64 (Int.ofNat q07) 1)) 1))) 0) (k_ (z00 (z01 x1) q0c q07 (subI IntKind.i64 (Int.ofNat q07) 1)) 0 0 (fop BinOp.sub FloatKind.f32 (fop BinOp.add FloatKind.f32 (gF q0c (ixO 0 0 1)) 1065353216) (gF q0c (ixO 0 (z00 (z01 x1) q0c q07 (subI IntKind.i64 (Int.ofNat q07) 1)) 1)))) (k_ (z00 (z01 x1) q0c q07 (subI IntKind.i64 (Int.ofNat q07) 1)) 0 (fop BinOp.quo FloatKind.f32 (fop BinOp.sub FloatKind.f32 (z01 x1) (gF q0c (ixO 0 (z00 (z01 x1) q0c q07 (subI IntKind.i64 (Int.ofNat q07) 1)) 1))) (fop BinOp.sub FloatKind.f32 (fop BinOp.add FloatKind.f32 (gF q0c (ixO 0 0 1)) 1065353216) (gF q0c (ixO 0 (z00 (z01 x1) q0c q07 (subI IntKind.i64 (Int.ofNat q07) 1)) 1)))) (fop BinOp.sub FloatKind.f32 (fop BinOp.add FloatKind.f32 (gF q0c (ixO 0 0 1)) 1065353216) (gF q0c (ixO 0 (z00 (z01 x1) q0c q07 (subI IntKind.i64 (Int.ofNat q07) 1)) 1))))) (br (fcmp BinOp.eql FloatKind.f32 (fop BinOp.sub FloatKind.f32 (gF q0c (ixO 0 0 1)) (gF q0c (ixO 0 (z00 (z01 x1) q0c q07 (subI IntKind.i64 (Int.ofNat q07) 1)) 1))) 0) (k_ (z00 (z01 x1) q0c q07 (subI IntKind.i64 (Int.ofNat q07) 1)) 0 0 (fop BinOp.sub FloatKind.f32 (gF q0c (ixO 0 0 1)) (gF q0c (ixO 0 (z00 (z01 x1) q0c q07 (subI IntKind.i64 (Int.ofNat q07) 1)) 1)))) (k_ (z00 (z01 x1) q0c q07 (subI IntKind.i64 (Int.ofNat q07) 1)) 0 (fop BinOp.quo FloatKind.f32 (fop BinOp.sub FloatKind.f32 (z01 x1) (gF q0c (ixO 0 (z00 (z01 x1) q0c q07 (subI IntKind.i64 (Int.ofNat q07) 1)) 1))) (fop BinOp.sub FloatKind.f32 (gF q0c (ixO 0 0 1)) (gF q0c (ixO 0 (z00 (z01 x1) q0c q07 (subI IntKind.i64 (Int.ofNat q07) 1)) 1)))) (fop BinOp.sub FloatKind.f32 (gF q0c (ixO 0 0 1)) (gF q0c (ixO 0 (z00 (z01 x1) q0c q07 (subI IntKind.i64 (Int.ofNat q07) 1)) 1))))))) (br (eqI 0 0) (br (fcmp BinOp.eql FloatKind.f32 (fop BinOp.sub FloatKind.f32 (fop BinOp.add FloatKind.f32 (gF q0c (ixO 0 0 1)) 1065353216) (gF q0c (ixO 0 (z00 (z01 x1) q0c q07 (subI IntKind.i64 (Int.ofNat q07) 1)) 1))) 0) (k_ (z00 (z01 x1) q0c q07 (subI IntKind.i64 (Int.ofNat q07) 1)) 0 0 (fop BinOp.sub FloatKind.f32 (fop BinOp.add FloatKind.f32 (gF q0c (ixO 0 0 1)) 1065353216) (gF q0c (ixO 0 (z00 (z01 x1) q0c q07 (subI IntKind.i64 (Int.ofNat q07) 1)) 1)))) (k_ (z00 (z01 x1) q0c q07 (subI IntKind.i64 (Int.ofNat q07) 1)) 0 (fop BinOp.quo FloatKind.f32 (fop BinOp.sub FloatKind.f32 (z01 x1) (gF q0c (ixO 0 (z00 (z01 x1) q0c q07 (subI IntKind.i64 (Int.ofNat q07) 1)) 1))) (fop BinOp.sub FloatKind.f32 (fop BinOp.add FloatKind.f32 (gF q0c (ixO 0 0 1)) 1065353216) (gF q0c (ixO 0 (z00 (z01 x1) q0c q07 (subI IntKind.i64 (Int.ofNat q07) 1)) 1)))) (fop BinOp.sub FloatKind.f32 (fop BinOp.add FloatKind.f32 (gF q0c (ixO 0 0 1)) 1065353216) (gF q0c (ixO 0 (z00 (z01 x1) q0c q07 (subI IntKind.i64 (Int.ofNat q07) 1)) 1))))) (br (fcmp BinOp.eql FloatKind.f32 (fop BinOp.sub FloatKind.f32 (gF q0c (ixO 0 0 1)) (gF q0c (ixO 0 (z00 (z01 x1) q0c q07 (subI IntKind.i64 (Int.ofNat q07) 1)) 1))) 0) (k_ (z00 (z01 x1) q0c q07 (subI IntKind.i64 (Int.ofNat q07) 1)) 0 0 (fop BinOp.sub FloatKind.f32 (gF q0c (ixO 0 0 1)) (gF q0c (ixO 0 (z00 (z01 x1) q0c q07 (subI IntKind.i64 (Int.ofNat q07) 1)) 1)))) (k_ (z00 (z01 x1) q0c q07 (subI IntKind.i64 (Int.ofNat q07) 1)) 0 (fop BinOp.quo FloatKind.f32 (fop BinOp.sub FloatKind.f32 (z01 x1) (gF q0c (ixO 0 (z00 (z01 x1) q0c q07 (subI IntKind.i64 (Int.ofNat q07) 1)) 1))) (fop BinOp.sub FloatKind.f32 (gF q0c (ixO 0 0 1)) (gF q0c (ixO 0 (z00 (z01 x1) q0c q07 (subI IntKind.i64 (Int.ofNat q07) 1)) 1)))) (fop BinOp.sub FloatKind.f32 (gF q0c (ixO 0 0 1)) (gF q0c (ixO 0 (z00 (z01 x1) q0c q07 (subI IntKind.i64 (Int.ofNat q07) 1)) 1))))))))) (grd (okIx (z00 (z01 x1) q0c q07 (subI IntKind.i64 (Int.ofNat q07) 1)) q07) (grd (okIx (addI IntKind.i64 (z00 (z01 x1) q0c q07 (subI IntKind.i64 (Int.ofNat q07) 1)) 1) q07) (br (eqI (addI IntKind.i64 (z00 (z01 x1) q0c q07 (subI IntKind.i64 (Int.ofNat q07) 1)) 1) 0) (br (fcmp BinOp.lss FloatKind.f32 (z01 x1) (gF q0c (ixO 0 (addI IntKind.i64 (z00 (z01 x1) q0c q07 (subI IntKind.i64 (Int.ofNat q07) 1)) 1) 1))) (br (fcmp BinOp.eql FloatKind.f32 (fop BinOp.sub FloatKind.f32 (gF q0c (ixO 0 (addI IntKind.i64 (z00 (z01 x1) q0c q07 (subI IntKind.i64 (Int.ofNat q07) 1)) 1) 1)) (fop BinOp.sub FloatKind.f32 (gF q0c (ixO 0 (z00 (z01 x1) q0c q07 (subI IntKind.i64 (Int.ofNat q07) 1)) 1)) 1065353216)) 0) (k_ (z00 (z01 x1) q0c q07 (subI IntKind.i64 (Int.ofNat q07) 1)) (addI IntKind.i64 (z00 (z01 x1) q0c q07 (subI IntKind.i64 (Int.ofNat q07) 1)) 1) 0 (fop BinOp.sub FloatKind.f32 (gF q0c (ixO 0 (addI IntKind.i64 (z00 (z01 x1) q0c q07 (subI IntKind.i64 (Int.ofNat q07) 1)) 1) 1)) (fop BinOp.sub FloatKind.f32 (gF q0c (ixO 0 (z00 (z01 x1) q0c q07 (subI IntKind.i64 (Int.ofNat q07) 1)) 1)) 1065353216))) (k_ (z00 (z01 x1) q0c q07 (subI IntKind.i64 (Int.ofNat q07) 1)) (addI IntKind.i64 (z00 (z01 x1) q0c q07 (subI IntKind.i64 (Int.ofNat q07) 1)) 1) (fop BinOp.quo FloatKind.f32 (fop BinOp.sub FloatKind.f32 (z01 x1) (fop BinOp.sub FloatKind.f32 (gF q0c (ixO 0 (z00 (z01 x1) q0c q07 (subI IntKind.i64 (Int.ofNat q07) 1)) 1)) 1065353216)) (fop BinOp.sub FloatKind.f32 (gF q0c (ixO 0 (addI IntKind.i64 (z00 (z01 x1) q0c q07 (subI IntKind.i64 (Int.ofNat q07) 1)) 1) 1)) (fop BinOp.sub FloatKind.f32 (gF q0c (ixO 0 (z00 (z01 x1) q0c q07 (subI IntKind.i64 (Int.ofNat q07) 1)) 1)) 1065353216))) (fop BinOp.sub FloatKind.f32 (gF q0c (ixO 0 (addI IntKind.i64 (z00 (z01 x1) q0c q07 (subI IntKind.i64 (Int.ofNat q07) 1)) 1) 1)) (fop BinOp.sub FloatKind.f32 (gF q0c (ixO 0 (z00 (z01 x1) q0c q07 (subI IntKind.i64 (Int.ofNat q07) 1)) 1)) 1065353216)))) (br (eqI (addI IntKind.i64 (z00 (z01 x1) q0c q07 (subI IntKind.i64 (Int.ofNat q07) 1)) 1) 0) (br (fcmp BinOp.eql FloatKind.f32 (fop BinOp.sub FloatKind.f32 (fop BinOp.add FloatKind.f32 (gF q0c (ixO 0 (addI IntKind.i64 (z00 (z01 x1) q0c q07 (subI IntKind.i64 (Int.ofNat q07) 1)) 1) 1)) 1065353216) (gF q0c (ixO 0 (z00 (z01 x1) q0c q07 (subI IntKind.i64 (Int.ofNat q07) 1)) 1))) 0) (k_ (z00 (z01 x1) q0c q07 (subI IntKind.i64 (Int.ofNat q07) 1)) (addI IntKind.i64 (z00 (z01 x1) q0c q07 (subI IntKind.i64 (Int.ofNat q07) 1)) 1) 0 (fop BinOp.sub FloatKind.f32 (fop BinOp.add FloatKind.f32 (gF q0c (ixO 0 (addI IntKind.i64 (z00 (z01 x1) q0c q07 (subI IntKind.i64 (Int.ofNat q07) 1)) 1) 1)) 1065353216) (gF q0c (ixO 0 (z00 (z01 x1) q0c q07 (subI IntKind.i64 (Int.ofNat q07) 1)) 1)))) (k_ (z00 (z01 x1) q0c q07 (subI IntKind.i64 (Int.ofNat q07) 1)) (addI IntKind.i64 (z00 (z01 x1) q0c q07 (subI IntKind.i64 (Int.ofNat q07) 1)) 1) (fop BinOp.quo FloatKind.f32 (fop BinOp.sub FloatKind.f32 (z01 x1) (gF q0c (ixO 0 (z00 (z01 x1) q0c q07 (subI IntKind.i64 (Int.ofNat q07) 1)) 1))) (fop BinOp.sub FloatKind.f32 (fop BinOp.add FloatKind.f32 (gF q0c (ixO 0 (addI IntKind.i64 (z00 (z01 x1) q0c q07 (subI IntKind.i64 (Int.ofNat q07) 1)) 1) 1)) 1065353216) (gF q0c (ixO 0 (z00 (z01 x1) q0c q07 (subI IntKind.i64 (Int.ofNat q07) 1)) 1)))) (fop BinOp.sub FloatKind.f32 (fop BinOp.add FloatKind.f32 (gF q0c (ixO 0 (addI IntKind.i64 (z00 (z01 x1) q0c q07 (subI IntKind.i64 (Int.ofNat q07) 1)) 1) 1)) 1065353216) (gF q0c (ixO 0 (z00 (z01 x1) q0c q07 (subI IntKind.i64 (Int.ofNat q07) 1)) 1))))) (br (fcmp BinOp.eql FloatKind.f32 (fop BinOp.sub FloatKind.f32 (gF q0c (ixO 0 (addI IntKind.i64 (z00 (z01 x1) q0c q07 (subI IntKind.i64 (Int.ofNat q07) 1)) 1) 1)) (gF q0c (ixO 0 (z00 (z01 x1) q0c q07 (subI IntKind.i64 (Int.ofNat q07) 1)) 1))) 0) (k_ (z00 (z01 x1) q0c q07 (subI IntKind.i64 (Int.ofNat q07) 1)) (addI IntKind.i64 (z00 (z01 x1) q0c q07 (subI IntKind.i64 (Int.ofNat q07) 1)) 1) 0 (fop BinOp.sub FloatKind.f32 (gF q0c (ixO 0 (addI IntKind.i64 (z00 (z01 x1) q0c q07 (subI IntKind.i64 (Int.ofNat q07) 1)) 1) 1)) (gF q0c (ixO 0 (z00 (z01 x1) q0c q07 (subI IntKind.i64 (Int.ofNat q07) 1)) 1)))) (k_ (z00 (z01 x1) q0c q07 (subI IntKind.i64 (Int.ofNat q07) 1)) (addI IntKind.i64 (z00 (z01 x1) q0c q07 (subI IntKind.i64 (Int.ofNat q07) 1)) 1) (fop BinOp.quo FloatKind.f32 (fop BinOp.sub FloatKind.f32 (z01 x1) (gF q0c (ixO 0 (z00 (z01 x1) q0c q07 (subI IntKind.i64 (Int.ofNat q07) 1)) 1))) (fop BinOp.sub FloatKind.f32 (gF q0c (ixO 0 (addI IntKind.i64 (z00 (z01 x1) q0c q07 (subI IntKind.i64 (Int.ofNat q07) 1)) 1) 1)) (gF q0c (ixO 0 (z00 (z01 x1) q0c q07 (subI IntKind.i64 (Int.ofNat q07) 1)) 1)))) (fop BinOp.sub FloatKind.f32 (gF q0c (ixO 0 (addI IntKind.i64 (z00 (z01 x1) q0c q07 (subI IntKind.i64 (Int.ofNat q07) 1)) 1) 1)) (gF q0c (ixO 0 (z00 (z01 x1) q0c q07 (subI IntKind.i64 (Int.ofNat q07) 1)) 1))))))) (br (eqI (addI IntKind.i64 (z00 (z01 x1) q0c q07 (subI IntKind.i64 (Int.ofNat q07) 1)) 1) 0) (br (fcmp BinOp.eql FloatKind.f32 (fop BinOp.sub FloatKind.f32 (fop BinOp.add FloatKind.f32 (gF q0c (ixO 0 (addI IntKind.i64 (z00 (z01 x1) q0c q07 (subI IntKind.i64 (Int.ofNat q07) 1)) 1) 1)) 1065353216) (gF q0c (ixO 0 (z00 (z01 x1) q0c q07 (subI IntKind.i64 (Int.ofNat q07) 1)) 1))) 0) (k_ (z00 (z01 x1) q0c q07 (subI IntKind.i64 (Int.ofNat q07) 1)) (addI IntKind.i64 (z00 (z01 x1) q0c q07 (subI IntKind.i64 (Int.ofNat q07) 1)) 1) 0 (fop BinOp.sub FloatKind.f32 (fop BinOp.add FloatKind.f32 (gF q0c (ixO 0 (addI IntKind.i64 (z00 (z01 x1) q0c q07 (subI IntKind.i64 (Int.ofNat q07) 1)) 1) 1)) 1065353216) (gF q0c (ixO 0 (z00 (z01 x1) q0c q07 (subI IntKind.i64 (Int.ofNat q07) 1)) 1)))) (k_ (z00 (z01 x1) q0c q07 (subI IntKind.i64 (Int.ofNat q07) 1)) (addI IntKind.i64 (z00 (z01 x1) q0c q07 (subI IntKind.i64 (Int.ofNat q07) 1)) 1) (fop BinOp.quo FloatKind.f32 (fop BinOp.sub FloatKind.f32 (z01 x1) (gF q0c (ixO 0 (z00 (z01 x1) q0c q07 (subI IntKind.i64 (Int.ofNat q07) 1)) 1))) (fop BinOp.sub FloatKind.f32 (fop BinOp.add FloatKind.f32 (gF q0c (ixO 0 (addI IntKind.i64 (z00 (z01 x1) q0c q07 (subI IntKind.i64 (Int.ofNat q07) 1)) 1) 1)) 1065353216) (gF q0c (ixO 0 (z00 (z01 x1) q0c q07 (subI IntKind.i64 (Int.ofNat q07) 1)) 1)))) (fop BinOp.sub FloatKind.f32 (fop BinOp.add FloatKind.f32 (gF q0c (ixO 0 (addI IntKind.i64 (z00 (z01 x1) q0c q07 (subI IntKind.i64 (Int.ofNat q07) 1)) 1) 1)) 1065353216) (gF q0c (ixO 0 (z00 (z01 x1) q0c q07 (subI IntKind.i64 (Int.ofNat q07) 1)) 1))))) (br (fcmp BinOp.eql FloatKind.f32 (fop BinOp.sub FloatKind.f32 (gF q0c (ixO 0 (addI IntKind.i64 (z00 (z01 x1) q0c q07 (subI IntKind.i64 (Int.ofNat q07) 1)) 1) 1)) (gF q0c (ixO 0 (z00 (z01 x1) q0c q07 (subI IntKind.i64 (Int.ofNat q07) 1)) 1))) 0) (k_ (z00 (z01 x1) q0c q07 (subI IntKind.i64 (Int.ofNat q07) 1)) (addI IntKind.i64 (z00 (z01 x1) q0c q07 (subI IntKind.i64 (Int.ofNat q07) 1)) 1) 0 (fop BinOp.sub FloatKind.f32 (gF q0c (ixO 0 (addI IntKind.i64 (z00 (z01 x1) q0c q07 (subI IntKind.i64 (Int.ofNat q07) 1)) 1) 1)) (gF q0c (ixO 0 (z00 (z01 x1) q0c q07 (subI IntKind.i64 (Int.ofNat q07) 1)) 1)))) (k_ (z00 (z01 x1) q0c q07 (subI IntKind.i64 (Int.ofNat q07) 1)) (addI IntKind.i64 (z00 (z01 x1) q0c q07 (subI IntKind.i64 (Int.ofNat q07) 1)) 1) (fop BinOp.quo FloatKind.f32 (fop BinOp.sub FloatKind.f32 (z01 x1) (gF q0c (ixO 0 (z00 (z01 x1) q0c q07 (subI IntKind.i64 (Int.ofNat q07) 1)) 1))) (fop BinOp.sub FloatKind.f32 (gF q0c (ixO 0 (addI IntKind.i64 (z00 (z01 x1) q0c q07 (subI IntKind.i64 (Int.ofNat q07) 1)) 1) 1)) (gF q0c (ixO 0 (z00 (z01 x1) q0c q07 (subI IntKind.i64 (Int.ofNat q07) 1)) 1)))) (fop BinOp.sub FloatKind.f32 (gF q0c (ixO 0 (addI IntKind.i64 (z00 (z01 x1) q0c q07 (subI IntKind.i64 (Int.ofNat q07) 1)) 1) 1)) (gF q0c (ixO 0 (z00 (z01 x1) q0c q07 (subI IntKind.i64 (Int.ofNat q07) 1)) 1)))))))))))))
noncomputable def z8p (q07 : Nat) (q0c : List Nat) (q0o : Nat) (q0u : List Nat) (q0n : Nat) (q0v : List Nat) (x1 : Nat) : Option (Int × Int × Nat × Nat) := zbz q07 q0c q0o q0u q0n q0v x1 (fun c0_ c1_ c2_ c3_ => some (c0_, c1_, c2_, c3_))
theorem zqe {R R' : Type} (o : Option R → Option R') (h0 : o none = none) (q07 : Nat) (q0c : List Nat) (q0o : Nat) (q0u : List Nat) (q0n : Nat) (q0v : List Nat) (x1 : Nat) (k_ : Int → Int → Nat → Nat → Option R) : zbz q07 q0c q0o q0u q0n q0v x1 (fun c0_ c1_ c2_ c3_ => o (k_ c0_ c1_ c2_ c3_)) = o (zbz q07 q0c q0o q0u q0n q0v x1 k_) := by
  unfold zbz
  repeat (first | refine grd_out h0 ?_ | refine br_out ?_ ?_ | rfl | exact h0.symm)
noncomputable def zjk (q07 : Nat) (q0c : List Nat) (q0o : Nat) (q0u : List Nat) (q0n : Nat) (q0v : List Nat) (x1 : Nat) : Bool := (z8p q07 q0c q0o q0u q0n q0v x1).isSome
noncomputable def zar (q07 : Nat) (q0c : List Nat) (q0o : Nat) (q0u : List Nat) (q0n : Nat) (q0v : List Nat) (x1 : Nat) : Int := ((z8p q07 q0c q0o q0u q0n q0v x1).getD default).1
noncomputable def zfu (q07 : Nat) (q0c : List Nat) (q0o : Nat) (q0u : List Nat) (q0n : Nat) (q0v : List Nat) (x1 : Nat) : Int := ((z8p q07 q0c q0o q0u q0n q0v x1).getD default).2.1
noncomputable def zio (q07 : Nat) (q0c : List Nat) (q0o : Nat) (q0u : List Nat) (q0n : Nat) (q0v : List Nat) (x1 : Nat) : Nat := ((z8p q07 q0c q0o q0u q0n q0v x1).getD default).2.2.1
noncomputable def zkf (q07 : Nat) (q0c : List Nat) (q0o : Nat) (q0u : List Nat) (q0n : Nat) (q0v : List Nat) (x1 : Nat) : Nat := ((z8p q07 q0c q0o q0u q0n q0v x1).getD default).2.2.2
theorem zst {q07 : Nat} {q0c : List Nat} {q0o : Nat} {q0u : List Nat} {q0n : Nat} {q0v : List Nat} {x1 : Nat} {r : Int × Int × Nat × Nat} (h : z8p q07 q0c q0o q0u q0n q0v x1 = some r) : zjk q07 q0c q0o q0u q0n q0v x1 = true ∧ zar q07 q0c q0o q0u q0n q0v x1 = r.1 ∧ zfu q07 q0c q0o q0u q0n q0v x1 = r.2.1 ∧ zio q07 q0c q0o q0u q0n q0v x1 = r.2.2.1 ∧ zkf q07 q0c q0o q0u q0n q0v x1 = r.2.2.2 := by
  unfold zjk zar zfu zio zkf
  rw [h]
  exact ⟨rfl, rfl, rfl, rfl, rfl⟩
noncomputable def z6m {R : Type} (q2m : Nat) (t43 : Int) (b0 : List Nat) (q1h : Nat) (t44 : Int) (kn_ : Int → Option R) (k0_ : Unit → Option R) (k1_ : Int → Bool → Option R) : Option R := (br (ltI t44 t43) (grd (okIx t44 q2m) (grd (zfj (gF b0 (ixO 0 t44 1)) 3204448256 1056964608) (br (bnot (zec (gF b0 (ixO 0 t44 1)) 3204448256 1056964608)) (k0_ ()) (br (ltI 0 t44) (grd (okIx (subI IntKind.i64 t44 1) q1h) (br (fcmp BinOp.geq FloatKind.f32 (gF b0 (ixO 0 (subI IntKind.i64 t44 1) 1)) (gF b0 (ixO 0 t44 1))) (k0_ ()) (kn_ (addI IntKind.i64 t44 1)))) (kn_ (addI IntKind.i64 t44 1)))))) (k1_ t44 (ltI t44 t43)))
theorem zl3 {R R' : Type} (o : Option R → Option R') (h0 : o none = none) (q2m : Nat) (t43 : Int) (b0 : List Nat) (q1h : Nat) (t44 : Int) (kn_ : Int → Option R) (k0_ : Unit → Option R) (k1_ : Int → Bool → Option R) : z6m q2m t43 b0 q1h t44 (fun t44' => o (kn_ t44')) (fun _ => o (k0_ ())) (fun c0_ c1_ => o (k1_ c0_ c1_)) = o (z6m q2m t43 b0 q1h t44 kn_ k0_ k1_) := by
  unfold z6m
  repeat (first | refine grd_out h0 ?_ | refine br_out ?_ ?_ | rfl | exact h0.symm)
noncomputable def z40 (q2m : Nat) (t43 : Int) (b0 : List Nat) (q1h : Nat) : Nat → Int → Option ((Unit) ⊕ (Int × Bool))
  | 0, _ => none
  | n + 1, t44 => z6m q2m t43 b0 q1h  t44  (fun t44' => z40 q2m t43 b0 q1h n t44') (fun _ => some (Sum.inl ())) (fun c0_ c1_ => some (Sum.inr (c0_, c1_)))
theorem zhw (q2m : Nat) (t43 : Int) (b0 : List Nat) (q1h : Nat) (n : Nat) (t44 : Int) : z40 q2m t43 b0 q1h (n + 1) t44 = z6m q2m t43 b0 q1h  t44  (fun t44' => z40 q2m t43 b0 q1h n t44') (fun _ => some (Sum.inl ())) (fun c0_ c1_ => some (Sum.inr (c0_, c1_))) := rfl
noncomputable def z83 (q2m : Nat) (t43 : Int) (b0 : List Nat) (q1h : Nat) (t44 : Int) : Bool := (z40 q2m t43 b0 q1h big t44).isSome
noncomputable def z7u (q2m : Nat) (t43 : Int) (b0 : List Nat) (q1h : Nat) (t44 : Int) : Bool := oL (z40 q2m t43 b0 q1h big t44)
noncomputable def zdg (q2m : Nat) (t43 : Int) (b0 : List Nat) (q1h : Nat) (t44 : Int) : Int := ((tR (z40 q2m t43 b0 q1h big t44)).getD default).1
noncomputable def zde (q2m : Nat) (t43 : Int) (b0 : List Nat) (q1h : Nat) (t44 : Int) : Bool := ((tR (z40 q2m t43 b0 q1h big t44)).getD default).2
theorem zlv {q2m : Nat} {t43 : Int} {b0 : List Nat} {q1h : Nat} {t44 : Int} {m : Nat} {r : Unit} (hm : m = big) (h : z40 q2m t43 b0 q1h m t44 = some (Sum.inl r)) : z83 q2m t43 b0 q1h t44 = true ∧ z7u q2m t43 b0 q1h t44 = true := by
  subst hm
  unfold z83 z7u
  rw [h]
  exact ⟨rfl, rfl⟩
theorem zm7 {q2m : Nat} {t43 : Int} {b0 : List Nat} {q1h : Nat} {t44 : Int} {m : Nat} {r : Int × Bool} (hm : m = big) (h : z40 q2m t43 b0 q1h m t44 = some (Sum.inr r)) : z83 q2m t43 b0 q1h t44 = true ∧ z7u q2m t43 b0 q1h t44 = false ∧ zdg q2m t43 b0 q1h t44 = r.1 ∧ zde q2m t43 b0 q1h t44 = r.2 := by
  subst hm
  unfold z83 z7u zdg zde
  rw [h]
  exact ⟨rfl, rfl, rfl, rfl⟩
noncomputable def z9t {R : Type} (q07 : Nat) (q0c : List Nat) (q0o : Nat) (q0u : List Nat) (q0n : Nat) (q0v : List Nat) (k_ : Bool → Option R) : Option R := (br (ltI (Int.ofNat q07) 2) (k_ Bool.false) (br (ltI 24 (Int.ofNat q07)) (k_ Bool.false) (br (neI (Int.ofNat q0o) (Int.ofNat q07)) (k_ Bool.false) (br (neI (Int.ofNat q0n) (Int.ofNat q07)) (k_ Bool.false) (grd (zi2 q0o (pF q0u 0 (muN q0o 1))) (br (bnot (zgr q0o (pF q0u 0 (muN q0o 1)))) (k_ Bool.false) (grd (ziz q0n (pF q0v 0 (muN q0n 1))) (br (bnot (zi9 q0n (pF q0v 0 (muN q0n 1)))) (k_ Bool.false) (grd (z83 q07 (Int.ofNat q07) q0c q07 0) (br (z7u q07 (Int.ofNat q07) q0c q07 0) (k_ Bool.false) (k_ Bool.true)))))))))))
noncomputable def z9x (q07 : Nat) (q0c : List Nat) (q0o : Nat) (q0u : List Nat) (q0n : Nat) (q0v : List Nat) : Option (Bool) := z9t q07 q0c q0o q0u q0n q0v (fun c0_ => some c0_)
theorem zmh {R R' : Type} (o : Option R → Option R') (h0 : o none = none) (q07 : Nat) (q0c : List Nat) (q0o : Nat) (q0u : List Nat) (q0n : Nat) (q0v : List Nat) (k_ : Bool → Option R) : z9t q07 q0c q0o q0u q0n q0v (fun c0_ => o (k_ c0_)) = o (z9t q07 q0c q0o q0u q0n q0v k_) := by
  unfold z9t
  repeat (first | refine grd_out h0 ?_ | refine br_out ?_ ?_ | rfl | exact h0.symm)
noncomputable def zef (q07 : Nat) (q0c : List Nat) (q0o : Nat) (q0u : List Nat) (q0n : Nat) (q0v : List Nat) : Bool := (z9x q07 q0c q0o q0u q0n q0v).isSome
noncomputable def zd8 (q07 : Nat) (q0c : List Nat) (q0o : Nat) (q0u : List Nat) (q0n : Nat) (q0v : List Nat) : Bool := ((z9x q07 q0c q0o q0u q0n q0v).getD default)
theorem zp7 {q07 : Nat} {q0c : List Nat} {q0o : Nat} {q0u : List Nat} {q0n : Nat} {q0v : List Nat} {r : Bool} (h : z9x q07 q0c q0o q0u q0n q0v = some r) : zef q07 q0c q0o q0u q0n q0v = true ∧ zd8 q07 q0c q0o q0u q0n q0v = r := by
  unfold zef zd8
  rw [h]
  exact ⟨rfl, rfl⟩
noncomputable def zbc {R : Type} (q0w : Nat) (q1c : List Nat) (q0y : Nat) (q1j : List Nat) (q0x : Nat) (q1i : List Nat) (q1m : Nat) (q1y : List Nat) (q1t : Nat) (k_ : Nat → Option R) : Option R := (grd (zck q0w (pF q1c 0 (muN q0w 1)) q0y (pF q1j 0 (muN q0y 1)) q0x (pF q1i 0 (muN q0x 1)) q1t) (br (fcmp BinOp.neq FloatKind.f32 (z72 q0w (pF q1c 0 (muN q0w 1)) q0y (pF q1j 0 (muN q0y 1)) q0x (pF q1i 0 (muN q0x 1)) q1t) (z8j q0w (pF q1c 0 (muN q0w 1)) q0y (pF q1j 0 (muN q0y 1)) q0x (pF q1i 0 (muN q0x 1)) q1t)) (grd (okIx (z6b q0w (pF q1c 0 (muN q0w 1)) q0y (pF q1j 0 (muN q0y 1)) q0x (pF q1i 0 (muN q0x 1)) q1t) q1m) (grd (okIx (z6a q0w (pF q1c 0 (muN q0w 1)) q0y (pF q1j 0 (muN q0y 1)) q0x (pF q1i 0 (muN q0x 1)) q1t) q1m) (grd (zj2 (gF q1y (ixO 0 (z6b q0w (pF q1c 0 (muN q0w 1)) q0y (pF q1j 0 (muN q0y 1)) q0x (pF q1i 0 (muN q0x 1)) q1t) 1)) (gF q1y (ixO 0 (z6a q0w (pF q1c 0 (muN q0w 1)) q0y (pF q1j 0 (muN q0y 1)) q0x (pF q1i 0 (muN q0x 1)) q1t) 1)) (fop BinOp.quo FloatKind.f32 (fop BinOp.sub FloatKind.f32 (z9j q0w (pF q1c 0 (muN q0w 1)) q0y (pF q1j 0 (muN q0y 1)) q0x (pF q1i 0 (muN q0x 1)) q1t) (z72 q0w (pF q1c 0 (muN q0w 1)) q0y (pF q1j 0 (muN q0y 1)) q0x (pF q1i 0 (muN q0x 1)) q1t)) (fop BinOp.sub FloatKind.f32 (z8j q0w (pF q1c 0 (muN q0w 1)) q0y (pF q1j 0 (muN q0y 1)) q0x (pF q1i 0 (muN q0x 1)) q1t) (z72 q0w (pF q1c 0 (muN q0w 1)) q0y (pF q1j 0 (muN q0y 1)) q0x (pF q1i 0 (muN q0x 1)) q1t)))) (k_ (zig (gF q1y (ixO 0 (z6b q0w (pF q1c 0 (muN q0w 1)) q0y (pF q1j 0 (muN q0y 1)) q0x (pF q1i 0 (muN q0x 1)) q1t) 1)) (gF q1y (ixO 0 (z6a q0w (pF q1c 0 (muN q0w 1)) q0y (pF q1j 0 (muN q0y 1)) q0x (pF q1i 0 (muN q0x 1)) q1t) 1)) (fop BinOp.quo FloatKind.f32 (fop BinOp.sub FloatKind.f32 (z9j q0w (pF q1c 0 (muN q0w 1)) q0y (pF q1j 0 (muN q0y 1)) q0x (pF q1i 0 (muN q0x 1)) q1t) (z72 q0w (pF q1c 0 (muN q0w 1)) q0y (pF q1j 0 (muN q0y 1)) q0x (pF q1i 0 (muN q0x 1)) q1t)) (fop BinOp.sub FloatKind.f32 (z8j q0w (pF q1c 0 (muN q0w 1)) q0y (pF q1j 0 (muN q0y 1)) q0x (pF q1i 0 (muN q0x 1)) q1t) (z72 q0w (pF q1c 0 (muN q0w 1)) q0y (pF q1j 0 (muN q0y 1)) q0x (pF q1i 0 (muN q0x 1)) q1t)))))))) (grd (okIx (z6b q0w (pF q1c 0 (muN q0w 1)) q0y (pF q1j 0 (muN q0y 1)) q0x (pF q1i 0 (muN q0x 1)) q1t) q1m) (grd (okIx (z6a q0w (pF q1c 0 (muN q0w 1)) q0y (pF q1j 0 (muN q0y 1)) q0x (pF q1i 0 (muN q0x 1)) q1t) q1m) (grd (zj2 (gF q1y (ixO 0 (z6b q0w (pF q1c 0 (muN q0w 1)) q0y (pF q1j 0 (muN q0y 1)) q0x (pF q1i 0 (muN q0x 1)) q1t) 1)) (gF q1y (ixO 0 (z6a q0w (pF q1c 0 (muN q0w 1)) q0y (pF q1j 0 (muN q0y 1)) q0x (pF q1i 0 (muN q0x 1)) q1t) 1)) 0) (k_ (zig (gF q1y (ixO 0 (z6b q0w (pF q1c 0 (muN q0w 1)) q0y (pF q1j 0 (muN q0y 1)) q0x (pF q1i 0 (muN q0x 1)) q1t) 1)) (gF q1y (ixO 0 (z6a q0w (pF q1c 0 (muN q0w 1)) q0y (pF q1j 0 (muN q0y 1)) q0x (pF q1i 0 (muN q0x 1)) q1t) 1)) 0)))))))
noncomputable def zax (q0w : Nat) (q1c : List Nat) (q0y : Nat) (q1j : List Nat) (q0x : Nat) (q1i : List Nat) (q1m : Nat) (q1y : List Nat) (q1t : Nat) : Option (Nat) := zbc q0w q1c q0y q1j q0x q1i q1m q1y q1t (fun c0_ => some c0_)
theorem znn {R R' : Type} (o : Option R → Option R') (h0 : o none = none) (q0w : Nat) (q1c : List Nat) (q0y : Nat) (q1j : List Nat) (q0x : Nat) (q1i : List Nat) (q1m : Nat) (q1y : List Nat) (q1t : Nat) (k_ : Nat → Option R) : zbc q0w q1c q0y q1j q0x q1i q1m q1y q1t (fun c0_ => o (k_ c0_)) = o (zbc q0w q1c q0y q1j q0x q1i q1m q1y q1t k_) := by
  unfold zbc
  repeat (first | refine grd_out h0 ?_ | refine br_out ?_ ?_ | rfl | exact h0.symm)
noncomputable def zd6 (q0w : Nat) (q1c : List Nat) (q0y : Nat) (q1j : List Nat) (q0x : Nat) (q1i : List Nat) (q1m : Nat) (q1y : List Nat) (q1t : Nat) : Bool := (zax q0w q1c q0y q1j q0x q1i q1m q1y q1t).isSome
noncomputable def z97 (q0w : Nat) (q1c : List Nat) (q0y : Nat) (q1j : List Nat) (q0x : Nat) (q1i : List Nat) (q1m : Nat) (q1y : List Nat) (q1t : Nat) : Nat := ((zax q0w q1c q0y q1j q0x q1i q1m q1y q1t).getD default)
theorem zkv {q0w : Nat} {q1c : List Nat} {q0y : Nat} {q1j : List Nat} {q0x : Nat} {q1i : List Nat} {q1m : Nat} {q1y : List Nat} {q1t : Nat} {r : Nat} (h : zax q0w q1c q0y q1j q0x q1i q1m q1y q1t = some r) : zd6 q0w q1c q0y q1j q0x q1i q1m q1y q1t = true ∧ z97 q0w q1c q0y q1j q0x q1i q1m q1y q1t = r := by
  unfold zd6 z97
  rw [h]
  exact ⟨rfl, rfl⟩
noncomputable def zh2 {R : Type} (q0w : Nat) (q1c : List Nat) (q0y : Nat) (q1j : List Nat) (q0x : Nat) (q1i : List Nat) (q1m : Nat) (q1y : List Nat) (q1t : Nat) (k_ : Nat → Option R) : Option R := (grd (zjk q0w (pF q1c 0 (muN q0w 1)) q0y (pF q1j 0 (muN q0y 1)) q0x (pF q1i 0 (muN q0x 1)) q1t) (grd (okIx (zar q0w (pF q1c 0 (muN q0w 1)) q0y (pF q1j 0 (muN q0y 1)) q0x (pF q1i 0 (muN q0x 1)) q1t) q1m) (grd (okIx (zfu q0w (pF q1c 0 (muN q0w 1)) q0y (pF q1j 0 (muN q0y 1)) q0x (pF q1i 0 (muN q0x 1)) q1t) q1m) (grd (okIx (zar q0w (pF q1c 0 (muN q0w 1)) q0y (pF q1j 0 (muN q0y 1)) q0x (pF q1i 0 (muN q0x 1)) q1t) q1m) (k_ (fop BinOp.add FloatKind.f32 (gF q1y (ixO 0 (zar q0w (pF q1c 0 (muN q0w 1)) q0y (pF q1j 0 (muN q0y 1)) q0x (pF q1i 0 (muN q0x 1)) q1t) 1)) (fop BinOp.mul FloatKind.f32 (zio q0w (pF q1c 0 (muN q0w 1)) q0y (pF q1j 0 (muN q0y 1)) q0x (pF q1i 0 (muN q0x 1)) q1t) (fop BinOp.sub FloatKind.f32 (gF q1y (ixO 0 (zfu q0w (pF q1c 0 (muN q0w 1)) q0y (pF q1j 0 (muN q0y 1)) q0x (pF q1i 0 (muN q0x 1)) q1t) 1)) (gF q1y (ixO 0 (zar q0w (pF q1c 0 (muN q0w 1)) q0y (pF q1j 0 (muN q0y 1)) q0x (pF q1i 0 (muN q0x 1)) q1t) 1))))))))))
noncomputable def zho (q0w : Nat) (q1c : List Nat) (q0y : Nat) (q1j : List Nat) (q0x : Nat) (q1i : List Nat) (q1m : Nat) (q1y : List Nat) (q1t : Nat) : Option (Nat) := zh2 q0w q1c q0y q1j q0x q1i q1m q1y q1t (fun c0_ => some c0_)
theorem zs6 {R R' : Type} (o : Option R → Option R') (h0 : o none = none) (q0w : Nat) (q1c : List Nat) (q0y : Nat) (q1j : List Nat) (q0x : Nat) (q1i : List Nat) (q1m : Nat) (q1y : List Nat) (q1t : Nat) (k_ : Nat → Option R) : zh2 q0w q1c q0y q1j q0x q1i q1m q1y q1t (fun c0_ => o (k_ c0_)) = o (zh2 q0w q1c q0y q1j q0x q1i q1m q1y q1t k_) := by
  unfold zh2
  repeat (first | refine grd_out h0 ?_ | refine br_out ?_ ?_ | rfl | exact h0.symm)
noncomputable def zj0 (q0w : Nat) (q1c : List Nat) (q0y : Nat) (q1j : List Nat) (q0x : Nat) (q1i : List Nat) (q1m : Nat) (q1y : List Nat) (q1t : Nat) : Bool := (zho q0w q1c q0y q1j q0x q1i q1m q1y q1t).isSome
noncomputable def zih (q0w : Nat) (q1c : List Nat) (q0y : Nat) (q1j : List Nat) (q0x : Nat) (q1i : List Nat) (q1m : Nat) (q1y : List Nat) (q1t : Nat) : Nat := ((zho q0w q1c q0y q1j q0x q1i q1m q1y q1t).getD default)
theorem zpc {q0w : Nat} {q1c : List Nat} {q0y : Nat} {q1j : List Nat} {q0x : Nat} {q1i : List Nat} {q1m : Nat} {q1y : List Nat} {q1t : Nat} {r : Nat} (h : zho q0w q1c q0y q1j q0x q1i q1m q1y q1t = some r) : zj0 q0w q1c q0y q1j q0x q1i q1m q1y q1t = true ∧ zih q0w q1c q0y q1j q0x q1i q1m q1y q1t = r := by
  unfold zj0 zih
  rw [h]
  exact ⟨rfl, rfl⟩
noncomputable def z9w {R : Type} (q00 : Nat) (q03 : List Nat) (q02 : Nat) (q05 : List Nat) (q01 : Nat) (q04 : List Nat) (q06 : Nat) (q09 : List Nat) (q0e : Int) (q0h : Nat) (q0g : Nat) (i : Int) (q0z : Nat) (q0q : Nat) (k_ : Nat → Nat → Option R) : Option R := (grd (okIx i q06) (grd (zd6 q00 (pF q03 0 (muN q00 1)) q02 (pF q05 0 (muN q02 1)) q01 (pF q04 0 (muN q01 1)) q02 (pF q05 0 (muN q02 1)) (fop BinOp.sub FloatKind.f32 (fop BinOp.sub FloatKind.f32 q0z (gF q09 (Nat.succ (Nat.succ (ixO 0 i 3))))) q0q)) (grd (zd6 q00 (pF q03 0 (muN q00 1)) q02 (pF q05 0 (muN q02 1)) q01 (pF q04 0 (muN q01 1)) q01 (pF q04 0 (muN q01 1)) (fop BinOp.sub FloatKind.f32 (fop BinOp.sub FloatKind.f32 q0z (gF q09 (Nat.succ (Nat.succ (ixO 0 i 3))))) q0q)) (grd (z87 q0z) (grd (z87 (fop BinOp.add FloatKind.f32 q0z 1048576000)) (k_ (fop BinOp.add FloatKind.f32 (fop BinOp.mul FloatKind.f32 (z97 q00 (pF q03 0 (muN q00 1)) q02 (pF q05 0 (muN q02 1)) q01 (pF q04 0 (muN q01 1)) q02 (pF q05 0 (muN q02 1)) (fop BinOp.sub FloatKind.f32 (fop BinOp.sub FloatKind.f32 q0z (gF q09 (Nat.succ (Nat.succ (ixO 0 i 3))))) q0q)) (z5s (fop BinOp.add FloatKind.f32 q0z 1048576000))) (fop BinOp.mul FloatKind.f32 (z97 q00 (pF q03 0 (muN q00 1)) q02 (pF q05 0 (muN q02 1)) q01 (pF q04 0 (muN q01 1)) q01 (pF q04 0 (muN q01 1)) (fop BinOp.sub FloatKind.f32 (fop BinOp.sub FloatKind.f32 q0z (gF q09 (Nat.succ (Nat.succ (ixO 0 i 3))))) q0q)) (z5s q0z))) (fop BinOp.sub FloatKind.f32 (fop BinOp.mul FloatKind.f32 (z97 q00 (pF q03 0 (muN q00 1)) q02 (pF q05 0 (muN q02 1)) q01 (pF q04 0 (muN q01 1)) q02 (pF q05 0 (muN q02 1)) (fop BinOp.sub FloatKind.f32 (fop BinOp.sub FloatKind.f32 q0z (gF q09 (Nat.succ (Nat.succ (ixO 0 i 3))))) q0q)) (z5s q0z)) (fop BinOp.mul FloatKind.f32 (z97 q00 (pF q03 0 (muN q00 1)) q02 (pF q05 0 (muN q02 1)) q01 (pF q04 0 (muN q01 1)) q01 (pF q04 0 (muN q01 1)) (fop BinOp.sub FloatKind.f32 (fop BinOp.sub FloatKind.f32 q0z (gF q09 (Nat.succ (Nat.succ (ixO 0 i 3))))) q0q)) (z5s (fop BinOp.add FloatKind.f32 q0z 1048576000))))))))))
noncomputable def z89 (q00 : Nat) (q03 : List Nat) (q02 : Nat) (q05 : List Nat) (q01 : Nat) (q04 : List Nat) (q06 : Nat) (q09 : List Nat) (q0e : Int) (q0h : Nat) (q0g : Nat) (i : Int) (q0z : Nat) (q0q : Nat) : Option (Nat × Nat) := z9w q00 q03 q02 q05 q01 q04 q06 q09 q0e q0h q0g i q0z q0q (fun c0_ c1_ => some (c0_, c1_))
theorem zmf {R R' : Type} (o : Option R → Option R') (h0 : o none = none) (q00 : Nat) (q03 : List Nat) (q02 : Nat) (q05 : List Nat) (q01 : Nat) (q04 : List Nat) (q06 : Nat) (q09 : List Nat) (q0e : Int) (q0h : Nat) (q0g : Nat) (i : Int) (q0z : Nat) (q0q : Nat) (k_ : Nat → Nat → Option R) : z9w q00 q03 q02 q05 q01 q04 q06 q09 q0e q0h q0g i q0z q0q (fun c0_ c1_ => o (k_ c0_ c1_)) = o (z9w q00 q03 q02 q05 q01 q04 q06 q09 q0e q0h q0g i q0z q0q k_) := by
  unfold z9w
  repeat (first | refine grd_out h0 ?_ | refine br_out ?_ ?_ | rfl | exact h0.symm)
noncomputable def zei (q00 : Nat) (q03 : List Nat) (q02 : Nat) (q05 : List Nat) (q01 : Nat) (q04 : List Nat) (q06 : Nat) (q09 : List Nat) (q0e : Int) (q0h : Nat) (q0g : Nat) (i : Int) (q0z : Nat) (q0q : Nat) : Bool := (z89 q00 q03 q02 q05 q01 q04 q06 q09 q0e q0h q0g i q0z q0q).isSome
noncomputable def zdl (q00 : Nat) (q03 : List Nat) (q02 : Nat) (q05 : List Nat) (q01 : Nat) (q04 : List Nat) (q06 : Nat) (q09 : List Nat) (q0e : Int) (q0h : Nat) (q0g : Nat) (i : Int) (q0z : Nat) (q0q : Nat) : Nat := ((z89 q00 q03 q02 q05 q01 q04 q06 q09 q0e q0h q0g i q0z q0q).getD default).1
noncomputable def zdc (q00 : Nat) (q03 : List Nat) (q02 : Nat) (q05 : List Nat) (q01 : Nat) (q04 : List Nat) (q06 : Nat) (q09 : List Nat) (q0e : Int) (q0h : Nat) (q0g : Nat) (i : Int) (q0z : Nat) (q0q : Nat) : Nat := ((z89 q00 q03 q02 q05 q01 q04 q06 q09 q0e q0h q0g i q0z q0q).getD default).2
theorem zod {q00 : Nat} {q03 : List Nat} {q02 : Nat} {q05 : List Nat} {q01 : Nat} {q04 : List Nat} {q06 : Nat} {q09 : List Nat} {q0e : Int} {q0h : Nat} {q0g : Nat} {i : Int} {q0z : Nat} {q0q : Nat} {r : Nat × Nat} (h : z89 q00 q03 q02 q05 q01 q04 q06 q09 q0e q0h q0g i q0z q0q = some r) : zei q00 q03 q02 q05 q01 q04 q06 q09 q0e q0h q0g i q0z q0q = true ∧ zdl q00 q03 q02 q05 q01 q04 q06 q09 q0e q0h q0g i q0z q0q = r.1 ∧ zdc q00 q03 q02 q05 q01 q04 q06 q09 q0e q0h q0g i q0z q0q = r.2 := by
  unfold zei zdl zdc
  rw [h]
  exact ⟨rfl, rfl, rfl⟩
noncomputable def zdz {R : Type} (q0w : Nat) (q1c : List Nat) (q0y : Nat) (q1j : List Nat) (q0x : Nat) (q1i : List Nat) (q1t : Nat) (k_ : Nat → Option R) : Option R := (grd (zj0 q0w (pF q1c 0 (muN q0w 1)) q0y (pF q1j 0 (muN q0y 1)) q0x (pF q1i 0 (muN q0x 1)) q0y (pF q1j 0 (muN q0y 1)) q1t) (k_ (zih q0w (pF q1c 0 (muN q0w 1)) q0y (pF q1j 0 (muN q0y 1)) q0x (pF q1i 0 (muN q0x 1)) q0y (pF q1j 0 (muN q0y 1)) q1t)))
noncomputable def ze4 (q0w : Nat) (q1c : List Nat) (q0y : Nat) (q1j : List Nat) (q0x : Nat) (q1i : List Nat) (q1t : Nat) : Option (Nat) := zdz q0w q1c q0y q1j q0x q1i q1t (fun c0_ => some c0_)
theorem zqu {R R' : Type} (o : Option R → Option R') (h0 : o none = none) (q0w : Nat) (q1c : List Nat) (q0y : Nat) (q1j : List Nat) (q0x : Nat) (q1i : List Nat) (q1t : Nat) (k_ : Nat → Option R) : zdz q0w q1c q0y q1j q0x q1i q1t (fun c0_ => o (k_ c0_)) = o (zdz q0w q1c q0y q1j q0x q1i q1t k_) := by
  unfold zdz
  repeat (first | refine grd_out h0 ?_ | refine br_out ?_ ?_ | rfl | exact h0.symm)
noncomputable def zjl (q0w : Nat) (q1c : List Nat) (q0y : Nat) (q1j : List Nat) (q0x : Nat) (q1i : List Nat) (q1t : Nat) : Bool := (ze4 q0w q1c q0y q1j q0x q1i q1t).isSome
noncomputable def zfe (q0w : Nat) (q1c : List Nat) (q0y : Nat) (q1j : List Nat) (q0x : Nat) (q1i : List Nat) (q1t : Nat) : Nat := ((ze4 q0w q1c q0y q1j q0x q1i q1t).getD default)
theorem zta {q0w : Nat} {q1c : List Nat} {q0y : Nat} {q1j : List Nat} {q0x : Nat} {q1i : List Nat} {q1t : Nat} {r : Nat} (h : ze4 q0w q1c q0y q1j q0x q1i q1t = some r) : zjl q0w q1c q0y q1j q0x q1i q1t = true ∧ zfe q0w q1c q0y q1j q0x q1i q1t = r := by
  unfold zjl zfe
  rw [h]
  exact ⟨rfl, rfl⟩
noncomputable def zdv {R : Type} (q0w : Nat) (q1c : List Nat) (q0y : Nat) (q1j : List Nat) (q0x : Nat) (q1i : List Nat) (q1t : Nat) (k_ : Nat → Option R) : Option R := (grd (zj0 q0w (pF q1c 0 (muN q0w 1)) q0y (pF q1j 0 (muN q0y 1)) q0x (pF q1i 0 (muN q0x 1)) q0x (pF q1i 0 (muN q0x 1)) q1t) (k_ (zih q0w (pF q1c 0 (muN q0w 1)) q0y (pF q1j 0 (muN q0y 1)) q0x (pF q1i 0 (muN q0x 1)) q0x (pF q1i 0 (muN q0x 1)) q1t)))
noncomputable def ze2 (q0w : Nat) (q1c : List Nat) (q0y : Nat) (q1j : List Nat) (q0x : Nat) (q1i : List Nat) (q1t : Nat) : Option (Nat) := zdv q0w q1c q0y q1j q0x q1i q1t (fun c0_ => some c0_)
theorem zqo {R R' : Type} (o : Option R → Option R') (h0 : o none = none) (q0w : Nat) (q1c : List Nat) (q0y : Nat) (q1j : List Nat) (q0x : Nat) (q1i : List Nat) (q1t : Nat) (k_ : Nat → Option R) : zdv q0w q1c q0y q1j q0x q1i q1t (fun c0_ => o (k_ c0_)) = o (zdv q0w q1c q0y q1j q0x q1i q1t k_) := by
  unfold zdv
  repeat (first | refine grd_out h0 ?_ | refine br_out ?_ ?_ | rfl | exact h0.symm)
noncomputable def zjf (q0w : Nat) (q1c : List Nat) (q0y : Nat) (q1j : List Nat) (q0x : Nat) (q1i : List Nat) (q1t : Nat) : Bool := (ze2 q0w q1c q0y q1j q0x q1i q1t).isSome
noncomputable def zfg (q0w : Nat) (q1c : List Nat) (q0y : Nat) (q1j : List Nat) (q0x : Nat) (q1i : List Nat) (q1t : Nat) : Nat := ((ze2 q0w q1c q0y q1j q0x q1i q1t).getD default)
theorem zsy {q0w : Nat} {q1c : List Nat} {q0y : Nat} {q1j : List Nat} {q0x : Nat} {q1i : List Nat} {q1t : Nat} {r : Nat} (h : ze2 q0w q1c q0y q1j q0x q1i q1t = some r) : zjf q0w q1c q0y q1j q0x q1i q1t = true ∧ zfg q0w q1c q0y q1j q0x q1i q1t = r := by
  unfold zjf zfg
  rw [h]
  exact ⟨rfl, rfl⟩
noncomputable def zc4 {R : Type} (q00 : Nat) (q03 : List Nat) (q02 : Nat) (q05 : List Nat) (q01 : Nat) (q04 : List Nat) (q06 : Nat) (q09 : List Nat) (q0e : Int) (q0h : Nat) (q0g : Nat) (i : Int) (q0z : Nat) (q0q : Nat) (k_ : Nat → Nat → Option R) : Option R := (grd (okIx i q06) (grd (zjl q00 (pF q03 0 (muN q00 1)) q02 (pF q05 0 (muN q02 1)) q01 (pF q04 0 (muN q01 1)) (fop BinOp.sub FloatKind.f32 (fop BinOp.sub FloatKind.f32 q0z (gF q09 (Nat.succ (Nat.succ (ixO 0 i 3))))) q0q)) (grd (zjf q00 (pF q03 0 (muN q00 1)) q02 (pF q05 0 (muN q02 1)) q01 (pF q04 0 (muN q01 1)) (fop BinOp.sub FloatKind.f32 (fop BinOp.sub FloatKind.f32 q0z (gF q09 (Nat.succ (Nat.succ (ixO 0 i 3))))) q0q)) (grd (z9c q0z) (grd (z9c (fop BinOp.add FloatKind.f32 q0z 1048576000)) (k_ (fop BinOp.add FloatKind.f32 (fop BinOp.mul FloatKind.f32 (zfe q00 (pF q03 0 (muN q00 1)) q02 (pF q05 0 (muN q02 1)) q01 (pF q04 0 (muN q01 1)) (fop BinOp.sub FloatKind.f32 (fop BinOp.sub FloatKind.f32 q0z (gF q09 (Nat.succ (Nat.succ (ixO 0 i 3))))) q0q)) (z5w (fop BinOp.add FloatKind.f32 q0z 1048576000))) (fop BinOp.mul FloatKind.f32 (zfg q00 (pF q03 0 (muN q00 1)) q02 (pF q05 0 (muN q02 1)) q01 (pF q04 0 (muN q01 1)) (fop BinOp.sub FloatKind.f32 (fop BinOp.sub FloatKind.f32 q0z (gF q09 (Nat.succ (Nat.succ (ixO 0 i 3))))) q0q)) (z5w q0z))) (fop BinOp.sub FloatKind.f32 (fop BinOp.mul FloatKind.f32 (zfe q00 (pF q03 0 (muN q00 1)) q02 (pF q05 0 (muN q02 1)) q01 (pF q04 0 (muN q01 1)) (fop BinOp.sub FloatKind.f32 (fop BinOp.sub FloatKind.f32 q0z (gF q09 (Nat.succ (Nat.succ (ixO 0 i 3))))) q0q)) (z5w q0z)) (fop BinOp.mul FloatKind.f32 (zfg q00 (pF q03 0 (muN q00 1)) q02 (pF q05 0 (muN q02 1)) q01 (pF q04 0 (muN q01 1)) (fop BinOp.sub FloatKind.f32 (fop BinOp.sub FloatKind.f32 q0z (gF q09 (Nat.succ (Nat.succ (ixO 0 i 3))))) q0q)) (z5w (fop BinOp.add FloatKind.f32 q0z 1048576000))))))))))
noncomputable def za5 (q00 : Nat) (q03 : List Nat) (q02 : Nat) (q05 : List Nat) (q01 : Nat) (q04 : List Nat) (q06 : Nat) (q09 : List Nat) (q0e : Int) (q0h : Nat) (q0g : Nat) (i : Int) (q0z : Nat) (q0q : Nat) : Option (Nat × Nat) := zc4 q00 q03 q02 q05 q01 q04 q06 q09 q0e q0h q0g i q0z q0q (fun c0_ c1_ => some (c0_, c1_))
theorem zor {R R' : Type} (o : Option R → Option R') (h0 : o none = none) (q00 : Nat) (q03 : List Nat) (q02 : Nat) (q05 : List Nat) (q01 : Nat) (q04 : List Nat) (q06 : Nat) (q09 : List Nat) (q0e : Int) (q0h : Nat) (q0g : Nat) (i : Int) (q0z : Nat) (q0q : Nat) (k_ : Nat → Nat → Option R) : zc4 q00 q03 q02 q05 q01 q04 q06 q09 q0e q0h q0g i q0z q0q (fun c0_ c1_ => o (k_ c0_ c1_)) = o (zc4 q00 q03 q02 q05 q01 q04 q06 q09 q0e q0h q0g i q0z q0q k_) := by
  unfold zc4
  repeat (first | refine grd_out h0 ?_ | refine br_out ?_ ?_ | rfl | exact h0.symm)
noncomputable def zi7 (q00 : Nat) (q03 : List Nat) (q02 : Nat) (q05 : List Nat) (q01 : Nat) (q04 : List Nat) (q06 : Nat) (q09 : List Nat) (q0e : Int) (q0h : Nat) (q0g : Nat) (i : Int) (q0z : Nat) (q0q : Nat) : Bool := (za5 q00 q03 q02 q05 q01 q04 q06 q09 q0e q0h q0g i q0z q0q).isSome
noncomputable def zd5 (q00 : Nat) (q03 : List Nat) (q02 : Nat) (q05 : List Nat) (q01 : Nat) (q04 : List Nat) (q06 : Nat) (q09 : List Nat) (q0e : Int) (q0h : Nat) (q0g : Nat) (i : Int) (q0z : Nat) (q0q : Nat) : Nat := ((za5 q00 q03 q02 q05 q01 q04 q06 q09 q0e q0h q0g i q0z q0q).getD default).1
noncomputable def zd7 (q00 : Nat) (q03 : List Nat) (q02 : Nat) (q05 : List Nat) (q01 : Nat) (q04 : List Nat) (q06 : Nat) (q09 : List Nat) (q0e : Int) (q0h : Nat) (q0g : Nat) (i : Int) (q0z : Nat) (q0q : Nat) : Nat := ((za5 q00 q03 q02 q05 q01 q04 q06 q09 q0e q0h q0g i q0z q0q).getD default).2
theorem zrl {q00 : Nat} {q03 : List Nat} {q02 : Nat} {q05 : List Nat} {q01 : Nat} {q04 : List Nat} {q06 : Nat} {q09 : List Nat} {q0e : Int} {q0h : Nat} {q0g : Nat} {i : Int} {q0z : Nat} {q0q : Nat} {r : Nat × Nat} (h : za5 q00 q03 q02 q05 q01 q04 q06 q09 q0e q0h q0g i q0z q0q = some r) : zi7 q00 q03 q02 q05 q01 q04 q06 q09 q0e q0h q0g i q0z q0q = true ∧ zd5 q00 q03 q02 q05 q01 q04 q06 q09 q0e q0h q0g i q0z q0q = r.1 ∧ zd7 q00 q03 q02 q05 q01 q04 q06 q09 q0e q0h q0g i q0z q0q = r.2 := by
  unfold zi7 zd5 zd7
  rw [h]
  exact ⟨rfl, rfl, rfl⟩
noncomputable def z9u {R : Type} (q00 : Nat) (q03 : List Nat) (q02 : Nat) (q05 : List Nat) (q01 : Nat) (q04 : List Nat) (q06 : Nat) (q09 : List Nat) (q0e : Int) (q0h : Nat) (q0g : Nat) (i : Int) (q0z : Nat) (q0q : Nat) (k_ : Nat → Nat → Option R) : Option R := (grd (zei q00 (pF q03 0 (muN q00 1)) q02 (pF q05 0 (muN q02 1)) q01 (pF q04 0 (muN q01 1)) q06 (pF q09 0 (muN q06 3)) q0e q0h q0g i q0z q0q) (grd (z87 q0z) (grd (z87 (fop BinOp.add FloatKind.f32 q0z 1048576000)) (grd (zct q00 (pF q03 0 (muN q00 1)) q02 (pF q05 0 (muN q02 1)) q01 (pF q04 0 (muN q01 1)) q06 (pF q09 0 (muN q06 3)) q0e q0h q0g i) (grd (zcx q00 (pF q03 0 (muN q00 1)) q02 (pF q05 0 (muN q02 1)) q01 (pF q04 0 (muN q01 1)) q06 (pF q09 0 (muN q06 3)) q0e q0h q0g i q0z) (k_ (fop BinOp.quo FloatKind.f32 (fop BinOp.mul FloatKind.f32 (za3 q00 (pF q03 0 (muN q00 1)) q02 (pF q05 0 (muN q02 1)) q01 (pF q04 0 (muN q01 1)) q06 (pF q09 0 (muN q06 3)) q0e q0h q0g i) (zdl q00 (pF q03 0 (muN q00 1)) q02 (pF q05 0 (muN q02 1)) q01 (pF q04 0 (muN q01 1)) q06 (pF q09 0 (muN q06 3)) q0e q0h q0g i q0z q0q)) (fop BinOp.mul FloatKind.f32 (fop BinOp.mul FloatKind.f32 (fop BinOp.mul FloatKind.f32 1082130432 (za2 q00 (pF q03 0 (muN q00 1)) q02 (pF q05 0 (muN q02 1)) q01 (pF q04 0 (muN q01 1)) q06 (pF q09 0 (muN q06 3)) q0e q0h q0g i q0z)) (z5s q0z)) (z5s q0z))) (fop BinOp.quo FloatKind.f32 (fop BinOp.mul FloatKind.f32 (za3 q00 (pF q03 0 (muN q00 1)) q02 (pF q05 0 (muN q02 1)) q01 (pF q04 0 (muN q01 1)) q06 (pF q09 0 (muN q06 3)) q0e q0h q0g i) (zdc q00 (pF q03 0 (muN q00 1)) q02 (pF q05 0 (muN q02 1)) q01 (pF q04 0 (muN q01 1)) q06 (pF q09 0 (muN q06 3)) q0e q0h q0g i q0z q0q)) (fop BinOp.mul FloatKind.f32 (fop BinOp.mul FloatKind.f32 (fop BinOp.mul FloatKind.f32 1082130432 (za2 q00 (pF q03 0 (muN q00 1)) q02 (pF q05 0 (muN q02 1)) q01 (pF q04 0 (muN q01 1)) q06 (pF q09 0 (muN q06 3)) q0e q0h q0g i q0z)) (z5s q0z)) (z5s (fop BinOp.add FloatKind.f32 q0z 1048576000))))))))))
noncomputable def z8v (q00 : Nat) (q03 : List Nat) (q02 : Nat) (q05 : List Nat) (q01 : Nat) (q04 : List Nat) (q06 : Nat) (q09 : List Nat) (q0e : Int) (q0h : Nat) (q0g : Nat) (i : Int) (q0z : Nat) (q0q : Nat) : Option (Nat × Nat) := z9u q00 q03 q02 q05 q01 q04 q06 q09 q0e q0h q0g i q0z q0q (fun c0_ c1_ => some (c0_, c1_))
theorem zmg {R R' : Type} (o : Option R → Option R') (h0 : o none = none) (q00 : Nat) (q03 : List Nat) (q02 : Nat) (q05 : List Nat) (q01 : Nat) (q04 : List Nat) (q06 : Nat) (q09 : List Nat) (q0e : Int) (q0h : Nat) (q0g : Nat) (i : Int) (q0z : Nat) (q0q : Nat) (k_ : Nat → Nat → Option R) : z9u q00 q03 q02 q05 q01 q04 q06 q09 q0e q0h q0g i q0z q0q (fun c0_ c1_ => o (k_ c0_ c1_)) = o (z9u q00 q03 q02 q05 q01 q04 q06 q09 q0e q0h q0g i q0z q0q k_) := by
  unfold z9u
  repeat (first | refine grd_out h0 ?_ | refine br_out ?_ ?_ | rfl | exact h0.symm)
noncomputable def zeh (q00 : Nat) (q03 : List Nat) (q02 : Nat) (q05 : List Nat) (q01 : Nat) (q04 : List Nat) (q06 : Nat) (q09 : List Nat) (q0e : Int) (q0h : Nat) (q0g : Nat) (i : Int) (q0z : Nat) (q0q : Nat) : Bool := (z8v q00 q03 q02 q05 q01 q04 q06 q09 q0e q0h q0g i q0z q0q).isSome
noncomputable def zdk (q00 : Nat) (q03 : List Nat) (q02 : Nat) (q05 : List Nat) (q01 : Nat) (q04 : List Nat) (q06 : Nat) (q09 : List Nat) (q0e : Int) (q0h : Nat) (q0g : Nat) (i : Int) (q0z : Nat) (q0q : Nat) : Nat := ((z8v q00 q03 q02 q05 q01 q04 q06 q09 q0e q0h q0g i q0z q0q).getD default).1
noncomputable def zd9 (q00 : Nat) (q03 : List Nat) (q02 : Nat) (q05 : List Nat) (q01 : Nat) (q04 : List Nat) (q06 : Nat) (q09 : List Nat) (q0e : Int) (q0h : Nat) (q0g : Nat) (i : Int) (q0z : Nat) (q0q : Nat) : Nat := ((z8v q00 q03 q02 q05 q01 q04 q06 q09 q0e q0h q0g i q0z q0q).getD default).2
theorem zp2 {q00 : Nat} {q03 : List Nat} {q02 : Nat} {q05 : List Nat} {q01 : Nat} {q04 : List Nat} {q06 : Nat} {q09 : List Nat} {q0e : Int} {q0h : Nat} {q0g : Nat} {i : Int} {q0z : Nat} {q0q : Nat} {r : Nat × Nat} (h : z8v q00 q03 q02 q05 q01 q04 q06 q09 q0e q0h q0g i q0z q0q = some r) : zeh q00 q03 q02 q05 q01 q04 q06 q09 q0e q0h q0g i q0z q0q = true ∧ zdk q00 q03 q02 q05 q01 q04 q06 q09 q0e q0h q0g i q0z q0q = r.1 ∧ zd9 q00 q03 q02 q05 q01 q04 q06 q09 q0e q0h q0g i q0z q0q = r.2 := by
  unfold zeh zdk zd9
  rw [h]
  exact ⟨rfl, rfl, rfl⟩
noncomputable def z7c {R : Type} (q2l : Nat) (t44 : Int) (b3 : List Nat) (q24 : Nat) (t4 : Nat) (t45 : Int) (kn_ : Nat → Int → Option R) (k0_ : Unit → Option R) (k1_ : Nat → Int → Bool → Option R) : Option R := (br (ltI t45 t44) (grd (okIx t45 q2l) (br (fcmp BinOp.gtr FloatKind.f32 (gF b3 (ixO 0 t45 3)) t4) (br (bnot (fcmp BinOp.lss FloatKind.f32 (gF b3 (ixO 0 t45 3)) q24)) (k0_ ()) (grd (zaj 1 (pF [(gF b3 (Nat.succ (ixO 0 t45 3)))] 0 (muN 1 1))) (br (bnot (z9z 1 (pF [(gF b3 (Nat.succ (ixO 0 t45 3)))] 0 (muN 1 1)))) (k0_ ()) (grd (z6z (gF b3 (Nat.succ (Nat.succ (ixO 0 t45 3))))) (br (bnot (z6j (gF b3 (Nat.succ (Nat.succ (ixO 0 t45 3)))))) (k0_ ()) (kn_ (gF b3 (ixO 0 t45 3)) (addI IntKind.i64 t45 1))))))) (br (bnot Bool.false) (k0_ ()) (grd (zaj 1 (pF [(gF b3 (Nat.succ (ixO 0 t45 3)))] 0 (muN 1 1))) (br (bnot (z9z 1 (pF [(gF b3 (Nat.succ (ixO 0 t45 3)))] 0 (muN 1 1)))) (k0_ ()) (grd (z6z (gF b3 (Nat.succ (Nat.succ (ixO 0 t45 3))))) (br (bnot (z6j (gF b3 (Nat.succ (Nat.succ (ixO 0 t45 3)))))) (k0_ ()) (kn_ (gF b3 (ixO 0 t45 3)) (addI IntKind.i64 t45 1))))))))) (k1_ t4 t45 (ltI t45 t44)))
theorem zm1 {R R' : Type} (o : Option R → Option R') (h0 : o none = none) (q2l : Nat) (t44 : Int) (b3 : List Nat) (q24 : Nat) (t4 : Nat) (t45 : Int) (kn_ : Nat → Int → Option R) (k0_ : Unit → Option R) (k1_ : Nat → Int → Bool → Option R) : z7c q2l t44 b3 q24 t4 t45 (fun t4' t45' => o (kn_ t4' t45')) (fun _ => o (k0_ ())) (fun c0_ c1_ c2_ => o (k1_ c0_ c1_ c2_)) = o (z7c q2l t44 b3 q24 t4 t45 kn_ k0_ k1_) := by
  unfold z7c
  repeat (first | refine grd_out h0 ?_ | refine br_out ?_ ?_ | rfl | exact h0.symm)
noncomputable def z2t (q2l : Nat) (t44 : Int) (b3 : List Nat) (q24 : Nat) : Nat → Nat → Int → Option ((Unit) ⊕ (Nat × Int × Bool))
  | 0, _, _ => none
  | n + 1, t4, t45 => z7c q2l t44 b3 q24  t4 t45  (fun t4' t45' => z2t q2l t44 b3 q24 n t4' t45') (fun _ => some (Sum.inl ())) (fun c0_ c1_ c2_ => some (Sum.inr (c0_, c1_, c2_)))
theorem ziy (q2l : Nat) (t44 : Int) (b3 : List Nat) (q24 : Nat) (n : Nat) (t4 : Nat) (t45 : Int) : z2t q2l t44 b3 q24 (n + 1) t4 t45 = z7c q2l t44 b3 q24  t4 t45  (fun t4' t45' => z2t q2l t44 b3 q24 n t4' t45') (fun _ => some (Sum.inl ())) (fun c0_ c1_ c2_ => some (Sum.inr (c0_, c1_, c2_))) := rfl
noncomputable def z8m (q2l : Nat) (t44 : Int) (b3 : List Nat) (q24 : Nat) (t4 : Nat) (t45 : Int) : Bool := (z2t q2l t44 b3 q24 big t4 t45).isSome
noncomputable def z8e (q2l : Nat) (t44 : Int) (b3 : List Nat) (q24 : Nat) (t4 : Nat) (t45 : Int) : Bool := oL (z2t q2l t44 b3 q24 big t4 t45)
noncomputable def zex (q2l : Nat) (t44 : Int) (b3 : List Nat) (q24 : Nat) (t4 : Nat) (t45 : Int) : Nat := ((tR (z2t q2l t44 b3 q24 big t4 t45)).getD default).1
noncomputable def zew (q2l : Nat) (t44 : Int) (b3 : List Nat) (q24 : Nat) (t4 : Nat) (t45 : Int) : Int := ((tR (z2t q2l t44 b3 q24 big t4 t45)).getD default).2.1
noncomputable def zeu (q2l : Nat) (t44 : Int) (b3 : List Nat) (q24 : Nat) (t4 : Nat) (t45 : Int) : Bool := ((tR (z2t q2l t44 b3 q24 big t4 t45)).getD default).2.2
theorem zmt {q2l : Nat} {t44 : Int} {b3 : List Nat} {q24 : Nat} {t4 : Nat} {t45 : Int} {m : Nat} {r : Unit} (hm : m = big) (h : z2t q2l t44 b3 q24 m t4 t45 = some (Sum.inl r)) : z8m q2l t44 b3 q24 t4 t45 = true ∧ z8e q2l t44 b3 q24 t4 t45 = true := by
  subst hm
  unfold z8m z8e
  rw [h]
  exact ⟨rfl, rfl⟩
theorem znb {q2l : Nat} {t44 : Int} {b3 : List Nat} {q24 : Nat} {t4 : Nat} {t45 : Int} {m : Nat} {r : Nat × Int × Bool} (hm : m = big) (h : z2t q2l t44 b3 q24 m t4 t45 = some (Sum.inr r)) : z8m q2l t44 b3 q24 t4 t45 = true ∧ z8e q2l t44 b3 q24 t4 t45 = false ∧ zex q2l t44 b3 q24 t4 t45 = r.1 ∧ zew q2l t44 b3 q24 t4 t45 = r.2.1 ∧ zeu q2l t44 b3 q24 t4 t45 = r.2.2 := by
  subst hm
  unfold z8m z8e zex zew zeu
  rw [h]
  exact ⟨rfl, rfl, rfl, rfl, rfl⟩
noncomputable def zbf {R : Type} (q10 : Nat) (q15 : List Nat) (q13 : Nat) (q19 : List Nat) (q14 : Nat) (q18 : List Nat) (q1a : Nat) (q1l : List Nat) (q1q : Int) (q1u : Nat) (q1v : Nat) (k_ : Bool → Option R) : Option R := (grd (zef q10 (pF q15 0 (muN q10 1)) q13 (pF q19 0 (muN q13 1)) q14 (pF q18 0 (muN q14 1))) (br (bnot (zd8 q10 (pF q15 0 (muN q10 1)) q13 (pF q19 0 (muN q13 1)) q14 (pF q18 0 (muN q14 1)))) (k_ Bool.false) (grd (zif q1q 1 6) (br (bnot (zhe q1q 1 6)) (k_ Bool.false) (br (ltI (Int.ofNat q1a) 2) (k_ Bool.false) (br (ltI 12 (Int.ofNat q1a)) (k_ Bool.false) (grd (zhk q1u) (br (bnot (zff q1u)) (k_ Bool.false) (grd (z6z q1v) (br (bnot (z6j q1v)) (k_ Bool.false) (grd (z8m q1a (Int.ofNat q1a) q1l q1v q1u 0) (br (z8e q1a (Int.ofNat q1a) q1l q1v q1u 0) (k_ Bool.false) (k_ Bool.true)))))))))))))
noncomputable def zb8 (q10 : Nat) (q15 : List Nat) (q13 : Nat) (q19 : List Nat) (q14 : Nat) (q18 : List Nat) (q1a : Nat) (q1l : List Nat) (q1q : Int) (q1u : Nat) (q1v : Nat) : Option (Bool) := zbf q10 q15 q13 q19 q14 q18 q1a q1l q1q q1u q1v (fun c0_ => some c0_)
theorem znk {R R' : Type} (o : Option R → Option R') (h0 : o none = none) (q10 : Nat) (q15 : List Nat) (q13 : Nat) (q19 : List Nat) (q14 : Nat) (q18 : List Nat) (q1a : Nat) (q1l : List Nat) (q1q : Int) (q1u : Nat) (q1v : Nat) (k_ : Bool → Option R) : zbf q10 q15 q13 q19 q14 q18 q1a q1l q1q q1u q1v (fun c0_ => o (k_ c0_)) = o (zbf q10 q15 q13 q19 q14 q18 q1a q1l q1q q1u q1v k_) := by
  unfold zbf
  repeat (first | refine grd_out h0 ?_ | refine br_out ?_ ?_ | rfl | exact h0.symm)
noncomputable def zgv (q10 : Nat) (q15 : List Nat) (q13 : Nat) (q19 : List Nat) (q14 : Nat) (q18 : List Nat) (q1a : Nat) (q1l : List Nat) (q1q : Int) (q1u : Nat) (q1v : Nat) : Bool := (zb8 q10 q15 q13 q19 q14 q18 q1a q1l q1q q1u q1v).isSome
noncomputable def zfn (q10 : Nat) (q15 : List Nat) (q13 : Nat) (q19 : List Nat) (q14 : Nat) (q18 : List Nat) (q1a : Nat) (q1l : List Nat) (q1q : Int) (q1u : Nat) (q1v : Nat) : Bool := ((zb8 q10 q15 q13 q19 q14 q18 q1a q1l q1q q1u q1v).getD default)
theorem zqt {q10 : Nat} {q15 : List Nat} {q13 : Nat} {q19 : List Nat} {q14 : Nat} {q18 : List Nat} {q1a : Nat} {q1l : List Nat} {q1q : Int} {q1u : Nat} {q1v : Nat} {r : Bool} (h : zb8 q10 q15 q13 q19 q14 q18 q1a q1l q1q q1u q1v = some r) : zgv q10 q15 q13 q19 q14 q18 q1a q1l q1q q1u q1v = true ∧ zfn q10 q15 q13 q19 q14 q18 q1a q1l q1q q1u q1v = r := by
  unfold zgv zfn
  rw [h]
  exact ⟨rfl, rfl⟩
noncomputable def z9e {R : Type} (q00 : Nat) (q03 : List Nat) (q02 : Nat) (q05 : List Nat) (q01 : Nat) (q04 : List Nat) (q06 : Nat) (q09 : List Nat) (q0e : Int) (q0h : Nat) (q0g : Nat) (i : Int) (q0z : Nat) (q1s : Nat) (q1k : Nat) (q0q : Nat) (k_ : Nat → Option R) : Option R := (grd (zeh q00 (pF q03 0 (muN q00 1)) q02 (pF q05 0 (muN q02 1)) q01 (pF q04 0 (muN q01 1)) q06 (pF q09 0 (muN q06 3)) q0e q0h q0g i q0z q0q) (grd (z87 q0z) (grd (z87 (fop BinOp.add FloatKind.f32 q0z 1048576000)) (grd (okIx i q06) (k_ (fop BinOp.sub FloatKind.f32 (fop BinOp.mul FloatKind.f32 (z5s q0z) (fop BinOp.add FloatKind.f32 1065353216 (zdk q00 (pF q03 0 (muN q00 1)) q02 (pF q05 0 (muN q02 1)) q01 (pF q04 0 (muN q01 1)) q06 (pF q09 0 (muN q06 3)) q0e q0h q0g i q0z q0q))) (fop BinOp.mul FloatKind.f32 (fop BinOp.mul FloatKind.f32 (fop BinOp.quo FloatKind.f32 q1s (fop BinOp.mul FloatKind.f32 q1k (gF q09 (ixO 0 i 3)))) (z5s (fop BinOp.add FloatKind.f32 q0z 1048576000))) (fop BinOp.sub FloatKind.f32 1065353216 (zd9 q00 (pF q03 0 (muN q00 1)) q02 (pF q05 0 (muN q02 1)) q01 (pF q04 0 (muN q01 1)) q06 (pF q09 0 (muN q06 3)) q0e q0h q0g i q0z q0q)))))))))
noncomputable def z8n (q00 : Nat) (q03 : List Nat) (q02 : Nat) (q05 : List Nat) (q01 : Nat) (q04 : List Nat) (q06 : Nat) (q09 : List Nat) (q0e : Int) (q0h : Nat) (q0g : Nat) (i : Int) (q0z : Nat) (q1s : Nat) (q1k : Nat) (q0q : Nat) : Option (Nat) := z9e q00 q03 q02 q05 q01 q04 q06 q09 q0e q0h q0g i q0z q1s q1k q0q (fun c0_ => some c0_)
theorem zma {R R' : Type} (o : Option R → Option R') (h0 : o none = none) (q00 : Nat) (q03 : List Nat) (q02 : Nat) (q05 : List Nat) (q01 : Nat) (q04 : List Nat) (q06 : Nat) (q09 : List Nat) (q0e : Int) (q0h : Nat) (q0g : Nat) (i : Int) (q0z : Nat) (q1s : Nat) (q1k : Nat) (q0q : Nat) (k_ : Nat → Option R) : z9e q00 q03 q02 q05 q01 q04 q06 q09 q0e q0h q0g i q0z q1s q1k q0q (fun c0_ => o (k_ c0_)) = o (z9e q00 q03 q02 q05 q01 q04 q06 q09 q0e q0h q0g i q0z q1s q1k q0q k_) := by
  unfold z9e
  repeat (first | refine grd_out h0 ?_ | refine br_out ?_ ?_ | rfl | exact h0.symm)
noncomputable def zdh (q00 : Nat) (q03 : List Nat) (q02 : Nat) (q05 : List Nat) (q01 : Nat) (q04 : List Nat) (q06 : Nat) (q09 : List Nat) (q0e : Int) (q0h : Nat) (q0g : Nat) (i : Int) (q0z : Nat) (q1s : Nat) (q1k : Nat) (q0q : Nat) : Bool := (z8n q00 q03 q02 q05 q01 q04 q06 q09 q0e q0h q0g i q0z q1s q1k q0q).isSome
noncomputable def z92 (q00 : Nat) (q03 : List Nat) (q02 : Nat) (q05 : List Nat) (q01 : Nat) (q04 : List Nat) (q06 : Nat) (q09 : List Nat) (q0e : Int) (q0h : Nat) (q0g : Nat) (i : Int) (q0z : Nat) (q1s : Nat) (q1k : Nat) (q0q : Nat) : Nat := ((z8n q00 q03 q02 q05 q01 q04 q06 q09 q0e q0h q0g i q0z q1s q1k q0q).getD default)
theorem znm {q00 : Nat} {q03 : List Nat} {q02 : Nat} {q05 : List Nat} {q01 : Nat} {q04 : List Nat} {q06 : Nat} {q09 : List Nat} {q0e : Int} {q0h : Nat} {q0g : Nat} {i : Int} {q0z : Nat} {q1s : Nat} {q1k : Nat} {q0q : Nat} {r : Nat} (h : z8n q00 q03 q02 q05 q01 q04 q06 q09 q0e q0h q0g i q0z q1s q1k q0q = some r) : zdh q00 q03 q02 q05 q01 q04 q06 q09 q0e q0h q0g i q0z q1s q1k q0q = true ∧ z92 q00 q03 q02 q05 q01 q04 q06 q09 q0e q0h q0g i q0z q1s q1k q0q = r := by
  unfold zdh z92
  rw [h]
  exact ⟨rfl, rfl⟩
noncomputable def ze6 {R : Type} (q00 : Nat) (q03 : List Nat) (q02 : Nat) (q05 : List Nat) (q01 : Nat) (q04 : List Nat) (q06 : Nat) (q09 : List Nat) (q0e : Int) (q0h : Nat) (q0g : Nat) (i : Int) (q0z : Nat) (q0q : Nat) (k_ : Nat → Nat → Nat → Nat → Option R) : Option R := (grd (zi7 q00 (pF q03 0 (muN q00 1)) q02 (pF q05 0 (muN q02 1)) q01 (pF q04 0 (muN q01 1)) q06 (pF q09 0 (muN q06 3)) q0e q0h q0g i q0z q0q) (grd (z9c q0z) (grd (z9c (fop BinOp.add FloatKind.f32 q0z 1048576000)) (grd (zk3 q00 (pF q03 0 (muN q00 1)) q02 (pF q05 0 (muN q02 1)) q01 (pF q04 0 (muN q01 1)) q06 (pF q09 0 (muN q06 3)) q0e q0h q0g i (z5w q0z)) (grd (zfs q00 (pF q03 0 (muN q00 1)) q02 (pF q05 0 (muN q02 1)) q01 (pF q04 0 (muN q01 1)) q06 (pF q09 0 (muN q06 3)) q0e q0h q0g i) (k_ (fop BinOp.quo FloatKind.f32 (fop BinOp.mul FloatKind.f32 (zbq q00 (pF q03 0 (muN q00 1)) q02 (pF q05 0 (muN q02 1)) q01 (pF q04 0 (muN q01 1)) q06 (pF q09 0 (muN q06 3)) q0e q0h q0g i) (zd5 q00 (pF q03 0 (muN q00 1)) q02 (pF q05 0 (muN q02 1)) q01 (pF q04 0 (muN q01 1)) q06 (pF q09 0 (muN q06 3)) q0e q0h q0g i q0z q0q)) (fop BinOp.mul FloatKind.f32 (fop BinOp.mul FloatKind.f32 (fop BinOp.mul FloatKind.f32 1082130432 (zhn q00 (pF q03 0 (muN q00 1)) q02 (pF q05 0 (muN q02 1)) q01 (pF q04 0 (muN q01 1)) q06 (pF q09 0 (muN q06 3)) q0e q0h q0g i (z5w q0z))) (z5w q0z)) (z5w q0z))) (fop BinOp.quo FloatKind.f32 (fop BinOp.mul FloatKind.f32 (zbq q00 (pF q03 0 (muN q00 1)) q02 (pF q05 0 (muN q02 1)) q01 (pF q04 0 (muN q01 1)) q06 (pF q09 0 (muN q06 3)) q0e q0h q0g i) (zd7 q00 (pF q03 0 (muN q00 1)) q02 (pF q05 0 (muN q02 1)) q01 (pF q04 0 (muN q01 1)) q06 (pF q09 0 (muN q06 3)) q0e q0h q0g i q0z q0q)) (fop BinOp.mul FloatKind.f32 (fop BinOp.mul FloatKind.f32 (fop BinOp.mul FloatKind.f32 1082130432 (zhn q00 (pF q03 0 (muN q00 1)) q02 (pF q05 0 (muN q02 1)) q01 (pF q04 0 (muN q01 1)) q06 (pF q09 0 (muN q06 3)) q0e q0h q0g i (z5w q0z))) (z5w q0z)) (z5w (fop BinOp.add FloatKind.f32 q0z 1048576000)))) (zd5 q00 (pF q03 0 (muN q00 1)) q02 (pF q05 0 (muN q02 1)) q01 (pF q04 0 (muN q01 1)) q06 (pF q09 0 (muN q06 3)) q0e q0h q0g i q0z q0q) (zd7 q00 (pF q03 0 (muN q00 1)) q02 (pF q05 0 (muN q02 1)) q01 (pF q04 0 (muN q01 1)) q06 (pF q09 0 (muN q06 3)) q0e q0h q0g i q0z q0q)))))))
noncomputable def z9d (q00 : Nat) (q03 : List Nat) (q02 : Nat) (q05 : List Nat) (q01 : Nat) (q04 : List Nat) (q06 : Nat) (q09 : List Nat) (q0e : Int) (q0h : Nat) (q0g : Nat) (i : Int) (q0z : Nat) (q0q : Nat) : Option (Nat × Nat × Nat × Nat) := ze6 q00 q03 q02 q05 q01 q04 q06 q09 q0e q0h q0g i q0z q0q (fun c0_ c1_ c2_ c3_ => some (c0_, c1_, c2_, c3_))
theorem zqs {R R' : Type} (o : Option R → Option R') (h0 : o none = none) (q00 : Nat) (q03 : List Nat) (q02 : Nat) (q05 : List Nat) (q01 : Nat) (q04 : List Nat) (q06 : Nat) (q09 : List Nat) (q0e : Int) (q0h : Nat) (q0g : Nat) (i : Int) (q0z : Nat) (q0q : Nat) (k_ : Nat → Nat → Nat → Nat → Option R) : ze6 q00 q03 q02 q05 q01 q04 q06 q09 q0e q0h q0g i q0z q0q (fun c0_ c1_ c2_ c3_ => o (k_ c0_ c1_ c2_ c3_)) = o (ze6 q00 q03 q02 q05 q01 q04 q06 q09 q0e q0h q0g i q0z q0q k_) := by
  unfold ze6
  repeat (first | refine grd_out h0 ?_ | refine br_out ?_ ?_ | rfl | exact h0.symm)
noncomputable def zju (q00 : Nat) (q03 : List Nat) (q02 : Nat) (q05 : List Nat) (q01 : Nat) (q04 : List Nat) (q06 : Nat) (q09 : List Nat) (q0e : Int) (q0h : Nat) (q0g : Nat) (i : Int) (q0z : Nat) (q0q : Nat) : Bool := (z9d q00 q03 q02 q05 q01 q04 q06 q09 q0e q0h q0g i q0z q0q).isSome
noncomputable def ziv (q00 : Nat) (q03 : List Nat) (q02 : Nat) (q05 : List Nat) (q01 : Nat) (q04 : List Nat) (q06 : Nat) (q09 : List Nat) (q0e : Int) (q0h : Nat) (q0g : Nat) (i : Int) (q0z : Nat) (q0q : Nat) : Nat := ((z9d q00 q03 q02 q05 q01 q04 q06 q09 q0e q0h q0g i q0z q0q).getD default).1
noncomputable def zir (q00 : Nat) (q03 : List Nat) (q02 : Nat) (q05 : List Nat) (q01 : Nat) (q04 : List Nat) (q06 : Nat) (q09 : List Nat) (q0e : Int) (q0h : Nat) (q0g : Nat) (i : Int) (q0z : Nat) (q0q : Nat) : Nat := ((z9d q00 q03 q02 q05 q01 q04 q06 q09 q0e q0h q0g i q0z q0q).getD default).2.1
noncomputable def zke (q00 : Nat) (q03 : List Nat) (q02 : Nat) (q05 : List Nat) (q01 : Nat) (q04 : List Nat) (q06 : Nat) (q09 : List Nat) (q0e : Int) (q0h : Nat) (q0g : Nat) (i : Int) (q0z : Nat) (q0q : Nat) : Nat := ((z9d q00 q03 q02 q05 q01 q04 q06 q09 q0e q0h q0g i q0z q0q).getD default).2.2.1
noncomputable def zkl (q00 : Nat) (q03 : List Nat) (q02 : Nat) (q05 : List Nat) (q01 : Nat) (q04 : List Nat) (q06 : Nat) (q09 : List Nat) (q0e : Int) (q0h : Nat) (q0g : Nat) (i : Int) (q0z : Nat) (q0q : Nat) : Nat := ((z9d q00 q03 q02 q05 q01 q04 q06 q09 q0e q0h q0g i q0z q0q).getD default).2.2.2
theorem zsn {q00 : Nat} {q03 : List Nat} {q02 : Nat} {q05 : List Nat} {q01 : Nat} {q04 : List Nat} {q06 : Nat} {q09 : List Nat} {q0e : Int} {q0h : Nat} {q0g : Nat} {i : Int} {q0z : Nat} {q0q : Nat} {r : Nat × Nat × Nat × Nat} (h : z9d q00 q03 q02 q05 q01 q04 q06 q09 q0e q0h q0g i q0z q0q = some r) : zju q00 q03 q02 q05 q01 q04 q06 q09 q0e q0h q0g i q0z q0q = true ∧ ziv q00 q03 q02 q05 q01 q04 q06 q09 q0e q0h q0g i q0z q0q = r.1 ∧ zir q00 q03 q02 q05 q01 q04 q06 q09 q0e q0h q0g i q0z q0q = r.2.1 ∧ zke q00 q03 q02 q05 q01 q04 q06 q09 q0e q0h q0g i q0z q0q = r.2.2.1 ∧ zkl q00 q03 q02 q05 q01 q04 q06 q09 q0e q0h q0g i q0z q0q = r.2.2.2 := by
  unfold zju ziv zir zke zkl
  rw [h]
  exact ⟨rfl, rfl, rfl, rfl, rfl⟩
noncomputable def zb9 {R : Type} (q00 : Nat) (q03 : List Nat) (q02 : Nat) (q05 : List Nat) (q01 : Nat) (q04 : List Nat) (q06 : Nat) (q09 : List Nat) (q0e : Int) (q0h : Nat) (q0g : Nat) (i : Int) (q0z : Nat) (q1s : Nat) (q1k : Nat) (q0q : Nat) (k_ : Nat → Option R) : Option R := (grd (zju q00 (pF q03 0 (muN q00 1)) q02 (pF q05 0 (muN q02 1)) q01 (pF q04 0 (muN q01 1)) q06 (pF q09 0 (muN q06 3)) q0e q0h q0g i q0z q0q) (grd (z9c q0z) (grd (z9c (fop BinOp.add FloatKind.f32 q0z 1048576000)) (grd (okIx i q06) (k_ (fop BinOp.sub FloatKind.f32 (fop BinOp.mul FloatKind.f32 (z5w q0z) (fop BinOp.add FloatKind.f32 1065353216 (ziv q00 (pF q03 0 (muN q00 1)) q02 (pF q05 0 (muN q02 1)) q01 (pF q04 0 (muN q01 1)) q06 (pF q09 0 (muN q06 3)) q0e q0h q0g i q0z q0q))) (fop BinOp.mul FloatKind.f32 (fop BinOp.mul FloatKind.f32 (fop BinOp.quo FloatKind.f32 q1s (fop BinOp.mul FloatKind.f32 q1k (gF q09 (ixO 0 i 3)))) (z5w (fop BinOp.add FloatKind.f32 q0z 1048576000))) (fop BinOp.sub FloatKind.f32 1065353216 (zir q00 (pF q03 0 (muN q00 1)) q02 (pF q05 0 (muN q02 1)) q01 (pF q04 0 (muN q01 1)) q06 (pF q09 0 (muN q06 3)) q0e q0h q0g i q0z q0q)))))))))
noncomputable def z8t (q00 : Nat) (q03 : List Nat) (q02 : Nat) (q05 : List Nat) (q01 : Nat) (q04 : List Nat) (q06 : Nat) (q09 : List Nat) (q0e : Int) (q0h : Nat) (q0g : Nat) (i : Int) (q0z : Nat) (q1s : Nat) (q1k : Nat) (q0q : Nat) : Option (Nat) := zb9 q00 q03 q02 q05 q01 q04 q06 q09 q0e q0h q0g i q0z q1s q1k q0q (fun c0_ => some c0_)
theorem zoa {R R' : Type} (o : Option R → Option R') (h0 : o none = none) (q00 : Nat) (q03 : List Nat) (q02 : Nat) (q05 : List Nat) (q01 : Nat) (q04 : List Nat) (q06 : Nat) (q09 : List Nat) (q0e : Int) (q0h : Nat) (q0g : Nat) (i : Int) (q0z : Nat) (q1s : Nat) (q1k : Nat) (q0q : Nat) (k_ : Nat → Option R) : zb9 q00 q03 q02 q05 q01 q04 q06 q09 q0e q0h q0g i q0z q1s q1k q0q (fun c0_ => o (k_ c0_)) = o (zb9 q00 q03 q02 q05 q01 q04 q06 q09 q0e q0h q0g i q0z q1s q1k q0q k_) := by
  unfold zb9
  repeat (first | refine grd_out h0 ?_ | refine br_out ?_ ?_ | rfl | exact h0.symm)
noncomputable def zh1 (q00 : Nat) (q03 : List Nat) (q02 : Nat) (q05 : List Nat) (q01 : Nat) (q04 : List Nat) (q06 : Nat) (q09 : List Nat) (q0e : Int) (q0h : Nat) (q0g : Nat) (i : Int) (q0z : Nat) (q1s : Nat) (q1k : Nat) (q0q : Nat) : Bool := (z8t q00 q03 q02 q05 q01 q04 q06 q09 q0e q0h q0g i q0z q1s q1k q0q).isSome
noncomputable def zal (q00 : Nat) (q03 : List Nat) (q02 : Nat) (q05 : List Nat) (q01 : Nat) (q04 : List Nat) (q06 : Nat) (q09 : List Nat) (q0e : Int) (q0h : Nat) (q0g : Nat) (i : Int) (q0z : Nat) (q1s : Nat) (q1k : Nat) (q0q : Nat) : Nat := ((z8t q00 q03 q02 q05 q01 q04 q06 q09 q0e q0h q0g i q0z q1s q1k q0q).getD default)
theorem zqc {q00 : Nat} {q03 : List Nat} {q02 : Nat} {q05 : List Nat} {q01 : Nat} {q04 : List Nat} {q06 : Nat} {q09 : List Nat} {q0e : Int} {q0h : Nat} {q0g : Nat} {i : Int} {q0z : Nat} {q1s : Nat} {q1k : Nat} {q0q : Nat} {r : Nat} (h : z8t q00 q03 q02 q05 q01 q04 q06 q09 q0e q0h q0g i q0z q1s q1k q0q = some r) : zh1 q00 q03 q02 q05 q01 q04 q06 q09 q0e q0h q0g i q0z q1s q1k q0q = true ∧ zal q00 q03 q02 q05 q01 q04 q06 q09 q0e q0h q0g i q0z q1s q1k q0q = r := by
  unfold zh1 zal
  rw [h]
  exact ⟨rfl, rfl⟩
noncomputable def ze0 {R : Type} (q00 : Nat) (q03 : List Nat) (q02 : Nat) (q05 : List Nat) (q01 : Nat) (q04 : List Nat) (q06 : Nat) (q09 : List Nat) (q0e : Int) (q0h : Nat) (q0g : Nat) (i : Int) (q1s : Nat) (q1k : Nat) (q0q : Nat) (k_ : Bool → Option R) : Option R := (grd (zgv q00 (pF q03 0 (muN q00 1)) q02 (pF q05 0 (muN q02 1)) q01 (pF q04 0 (muN q01 1)) q06 (pF q09 0 (muN q06 3)) q0e q0h q0g) (br (zfn q00 (pF q03 0 (muN q00 1)) q02 (pF q05 0 (muN q02 1)) q01 (pF q04 0 (muN q01 1)) q06 (pF q09 0 (muN q06 3)) q0e q0h q0g) (grd (zcj q00 (pF q03 0 (muN q00 1)) q02 (pF q05 0 (muN q02 1)) q01 (pF q04 0 (muN q01 1)) q06 (pF q09 0 (muN q06 3)) q0e q0h q0g i) (br (zbo q00 (pF q03 0 (muN q00 1)) q02 (pF q05 0 (muN q02 1)) q01 (pF q04 0 (muN q01 1)) q06 (pF q09 0 (muN q06 3)) q0e q0h q0g i) (grd (zaj 2 (pF [q1s, q1k] 0 (muN 2 1))) (br (z9z 2 (pF [q1s, q1k] 0 (muN 2 1))) (grd (z6z q0q) (br (z6j q0q) (grd (okIx i q06) (grd (z6z (fop BinOp.sub FloatKind.f32 (fop BinOp.sub FloatKind.f32 981668463 (gF q09 (Nat.succ (Nat.succ (ixO 0 i 3))))) q0q)) (k_ (z6j (fop BinOp.sub FloatKind.f32 (fop BinOp.sub FloatKind.f32 981668463 (gF q09 (Nat.succ (Nat.succ (ixO 0 i 3))))) q0q))))) (k_ Bool.false))) (k_ Bool.false))) (k_ Bool.false))) (k_ Bool.false)))
noncomputable def zdu (q00 : Nat) (q03 : List Nat) (q02 : Nat) (q05 : List Nat) (q01 : Nat) (q04 : List Nat) (q06 : Nat) (q09 : List Nat) (q0e : Int) (q0h : Nat) (q0g : Nat) (i : Int) (q1s : Nat) (q1k : Nat) (q0q : Nat) : Option (Bool) := ze0 q00 q03 q02 q05 q01 q04 q06 q09 q0e q0h q0g i q1s q1k q0q (fun c0_ => some c0_)
theorem zqf {R R' : Type} (o : Option R → Option R') (h0 : o none = none) (q00 : Nat) (q03 : List Nat) (q02 : Nat) (q05 : List Nat) (q01 : Nat) (q04 : List Nat) (q06 : Nat) (q09 : List Nat) (q0e : Int) (q0h : Nat) (q0g : Nat) (i : Int) (q1s : Nat) (q1k : Nat) (q0q : Nat) (k_ : Bool → Option R) : ze0 q00 q03 q02 q05 q01 q04 q06 q09 q0e q0h q0g i q1s q1k q0q (fun c0_ => o (k_ c0_)) = o (ze0 q00 q03 q02 q05 q01 q04 q06 q09 q0e q0h q0g i q1s q1k q0q k_) := by
  unfold ze0
  repeat (first | refine grd_out h0 ?_ | refine br_out ?_ ?_ | rfl | exact h0.symm)
noncomputable def zjt (q00 : Nat) (q03 : List Nat) (q02 : Nat) (q05 : List Nat) (q01 : Nat) (q04 : List Nat) (q06 : Nat) (q09 : List Nat) (q0e : Int) (q0h : Nat) (q0g : Nat) (i : Int) (q1s : Nat) (q1k : Nat) (q0q : Nat) : Bool := (zdu q00 q03 q02 q05 q01 q04 q06 q09 q0e q0h q0g i q1s q1k q0q).isSome
noncomputable def ziw (q00 : Nat) (q03 : List Nat) (q02 : Nat) (q05 : List Nat) (q01 : Nat) (q04 : List Nat) (q06 : Nat) (q09 : List Nat) (q0e : Int) (q0h : Nat) (q0g : Nat) (i : Int) (q1s : Nat) (q1k : Nat) (q0q : Nat) : Bool := ((zdu q00 q03 q02 q05 q01 q04 q06 q09 q0e q0h q0g i q1s q1k q0q).getD default)
theorem zsu {q00 : Nat} {q03 : List Nat} {q02 : Nat} {q05 : List Nat} {q01 : Nat} {q04 : List Nat} {q06 : Nat} {q09 : List Nat} {q0e : Int} {q0h : Nat} {q0g : Nat} {i : Int} {q1s : Nat} {q1k : Nat} {q0q : Nat} {r : Bool} (h : zdu q00 q03 q02 q05 q01 q04 q06 q09 q0e q0h q0g i q1s q1k q0q = some r) : zjt q00 q03 q02 q05 q01 q04 q06 q09 q0e q0h q0g i q1s q1k q0q = true ∧ ziw q00 q03 q02 q05 q01 q04 q06 q09 q0e q0h q0g i q1s q1k q0q = r := by
  unfold zjt ziw
  rw [h]
  exact ⟨rfl, rfl⟩
noncomputable def zbw {R : Type} (q00 : Nat) (q03 : List Nat) (q02 : Nat) (q05 : List Nat) (q01 : Nat) (q04 : List Nat) (q06 : Nat) (q09 : List Nat) (q0e : Int) (q0h : Nat) (q0g : Nat) (i : Int) (q0z : Nat) (q1s : Nat) (q1k : Nat) (q0q : Nat) (k_ : Nat → Bool → Option R) : Option R := (grd (zk1 q00 (pF q03 0 (muN q00 1)) q02 (pF q05 0 (muN q02 1)) q01 (pF q04 0 (muN q01 1)) q06 (pF q09 0 (muN q06 3)) q0e q0h q0g i q1s q1k q0q) (br (bnot (zjo q00 (pF q03 0 (muN q00 1)) q02 (pF q05 0 (muN q02 1)) q01 (pF q04 0 (muN q01 1)) q06 (pF q09 0 (muN q06 3)) q0e q0h q0g i q1s q1k q0q)) (k_ 0 Bool.false) (grd (zjn q0z) (br (bnot (ziq q0z)) (k_ 0 Bool.false) (grd (zh1 q00 (pF q03 0 (muN q00 1)) q02 (pF q05 0 (muN q02 1)) q01 (pF q04 0 (muN q01 1)) q06 (pF q09 0 (muN q06 3)) q0e q0h q0g i q0z q1s q1k q0q) (grd (zi8 (zal q00 (pF q03 0 (muN q00 1)) q02 (pF q05 0 (muN q02 1)) q01 (pF q04 0 (muN q01 1)) q06 (pF q09 0 (muN q06 3)) q0e q0h q0g i q0z q1s q1k q0q)) (k_ (zgz (zal q00 (pF q03 0 (muN q00 1)) q02 (pF q05 0 (muN q02 1)) q01 (pF q04 0 (muN q01 1)) q06 (pF q09 0 (muN q06 3)) q0e q0h q0g i q0z q1s q1k q0q)) (zgi (zal q00 (pF q03 0 (muN q00 1)) q02 (pF q05 0 (muN q02 1)) q01 (pF q04 0 (muN q01 1)) q06 (pF q09 0 (muN q06 3)) q0e q0h q0g i q0z q1s q1k q0q)))))))))
noncomputable def za7 (q00 : Nat) (q03 : List Nat) (q02 : Nat) (q05 : List Nat) (q01 : Nat) (q04 : List Nat) (q06 : Nat) (q09 : List Nat) (q0e : Int) (q0h : Nat) (q0g : Nat) (i : Int) (q0z : Nat) (q1s : Nat) (q1k : Nat) (q0q : Nat) : Option (Nat × Bool) := zbw q00 q03 q02 q05 q01 q04 q06 q09 q0e q0h q0g i q0z q1s q1k q0q (fun c0_ c1_ => some (c0_, c1_))
theorem zof {R R' : Type} (o : Option R → Option R') (h0 : o none = none) (q00 : Nat) (q03 : List Nat) (q02 : Nat) (q05 : List Nat) (q01 : Nat) (q04 : List Nat) (q06 : Nat) (q09 : List Nat) (q0e : Int) (q0h : Nat) (q0g : Nat) (i : Int) (q0z : Nat) (q1s : Nat) (q1k : Nat) (q0q : Nat) (k_ : Nat → Bool → Option R) : zbw q00 q03 q02 q05 q01 q04 q06 q09 q0e q0h q0g i q0z q1s q1k q0q (fun c0_ c1_ => o (k_ c0_ c1_)) = o (zbw q00 q03 q02 q05 q01 q04 q06 q09 q0e q0h q0g i q0z q1s q1k q0q k_) := by
  unfold zbw
  repeat (first | refine grd_out h0 ?_ | refine br_out ?_ ?_ | rfl | exact h0.symm)
noncomputable def zia (q00 : Nat) (q03 : List Nat) (q02 : Nat) (q05 : List Nat) (q01 : Nat) (q04 : List Nat) (q06 : Nat) (q09 : List Nat) (q0e : Int) (q0h : Nat) (q0g : Nat) (i : Int) (q0z : Nat) (q1s : Nat) (q1k : Nat) (q0q : Nat) : Bool := (za7 q00 q03 q02 q05 q01 q04 q06 q09 q0e q0h q0g i q0z q1s q1k q0q).isSome
noncomputable def zd3 (q00 : Nat) (q03 : List Nat) (q02 : Nat) (q05 : List Nat) (q01 : Nat) (q04 : List Nat) (q06 : Nat) (q09 : List Nat) (q0e : Int) (q0h : Nat) (q0g : Nat) (i : Int) (q0z : Nat) (q1s : Nat) (q1k : Nat) (q0q : Nat) : Nat := ((za7 q00 q03 q02 q05 q01 q04 q06 q09 q0e q0h q0g i q0z q1s q1k q0q).getD default).1
noncomputable def zgy (q00 : Nat) (q03 : List Nat) (q02 : Nat) (q05 : List Nat) (q01 : Nat) (q04 : List Nat) (q06 : Nat) (q09 : List Nat) (q0e : Int) (q0h : Nat) (q0g : Nat) (i : Int) (q0z : Nat) (q1s : Nat) (q1k : Nat) (q0q : Nat) : Bool := ((za7 q00 q03 q02 q05 q01 q04 q06 q09 q0e q0h q0g i q0z q1s q1k q0q).getD default).2
theorem zrk {q00 : Nat} {q03 : List Nat} {q02 : Nat} {q05 : List Nat} {q01 : Nat} {q04 : List Nat} {q06 : Nat} {q09 : List Nat} {q0e : Int} {q0h : Nat} {q0g : Nat} {i : Int} {q0z : Nat} {q1s : Nat} {q1k : Nat} {q0q : Nat} {r : Nat × Bool} (h : za7 q00 q03 q02 q05 q01 q04 q06 q09 q0e q0h q0g i q0z q1s q1k q0q = some r) : zia q00 q03 q02 q05 q01 q04 q06 q09 q0e q0h q0g i q0z q1s q1k q0q = true ∧ zd3 q00 q03 q02 q05 q01 q04 q06 q09 q0e q0h q0g i q0z q1s q1k q0q = r.1 ∧ zgy q00 q03 q02 q05 q01 q04 q06 q09 q0e q0h q0g i q0z q1s q1k q0q = r.2 := by
  unfold zia zd3 zgy
  rw [h]
  exact ⟨rfl, rfl, rfl⟩
noncomputable def zc3 {R : Type} (q00 : Nat) (q03 : List Nat) (q02 : Nat) (q05 : List Nat) (q01 : Nat) (q04 : List Nat) (q06 : Nat) (q09 : List Nat) (q0e : Int) (q0h : Nat) (q0g : Nat) (i : Int) (q0z : Nat) (q1s : Nat) (q1k : Nat) (q0q : Nat) (k_ : Nat → Bool → Option R) : Option R := (grd (zjt q00 (pF q03 0 (muN q00 1)) q02 (pF q05 0 (muN q02 1)) q01 (pF q04 0 (muN q01 1)) q06 (pF q09 0 (muN q06 3)) q0e q0h q0g i q1s q1k q0q) (br (bnot (ziw q00 (pF q03 0 (muN q00 1)) q02 (pF q05 0 (muN q02 1)) q01 (pF q04 0 (muN q01 1)) q06 (pF q09 0 (muN q06 3)) q0e q0h q0g i q1s q1k q0q)) (k_ 0 Bool.false) (grd (zk6 q0z) (br (bnot (zjp q0z)) (k_ 0 Bool.false) (grd (zdh q00 (pF q03 0 (muN q00 1)) q02 (pF q05 0 (muN q02 1)) q01 (pF q04 0 (muN q01 1)) q06 (pF q09 0 (muN q06 3)) q0e q0h q0g i q0z q1s q1k q0q) (grd (zjq (z92 q00 (pF q03 0 (muN q00 1)) q02 (pF q05 0 (muN q02 1)) q01 (pF q04 0 (muN q01 1)) q06 (pF q09 0 (muN q06 3)) q0e q0h q0g i q0z q1s q1k q0q)) (k_ (zin (z92 q00 (pF q03 0 (muN q00 1)) q02 (pF q05 0 (muN q02 1)) q01 (pF q04 0 (muN q01 1)) q06 (pF q09 0 (muN q06 3)) q0e q0h q0g i q0z q1s q1k q0q)) (zim (z92 q00 (pF q03 0 (muN q00 1)) q02 (pF q05 0 (muN q02 1)) q01 (pF q04 0 (muN q01 1)) q06 (pF q09 0 (muN q06 3)) q0e q0h q0g i q0z q1s q1k q0q)))))))))
noncomputable def za6 (q00 : Nat) (q03 : List Nat) (q02 : Nat) (q05 : List Nat) (q01 : Nat) (q04 : List Nat) (q06 : Nat) (q09 : List Nat) (q0e : Int) (q0h : Nat) (q0g : Nat) (i : Int) (q0z : Nat) (q1s : Nat) (q1k : Nat) (q0q : Nat) : Option (Nat × Bool) := zc3 q00 q03 q02 q05 q01 q04 q06 q09 q0e q0h q0g i q0z q1s q1k q0q (fun c0_ c1_ => some (c0_, c1_))
theorem zoi {R R' : Type} (o : Option R → Option R') (h0 : o none = none) (q00 : Nat) (q03 : List Nat) (q02 : Nat) (q05 : List Nat) (q01 : Nat) (q04 : List Nat) (q06 : Nat) (q09 : List Nat) (q0e : Int) (q0h : Nat) (q0g : Nat) (i : Int) (q0z : Nat) (q1s : Nat) (q1k : Nat) (q0q : Nat) (k_ : Nat → Bool → Option R) : zc3 q00 q03 q02 q05 q01 q04 q06 q09 q0e q0h q0g i q0z q1s q1k q0q (fun c0_ c1_ => o (k_ c0_ c1_)) = o (zc3 q00 q03 q02 q05 q01 q04 q06 q09 q0e q0h q0g i q0z q1s q1k q0q k_) := by
  unfold zc3
  repeat (first | refine grd_out h0 ?_ | refine br_out ?_ ?_ | rfl | exact h0.symm)
noncomputable def zi1 (q00 : Nat) (q03 : List Nat) (q02 : Nat) (q05 : List Nat) (q01 : Nat) (q04 : List Nat) (q06 : Nat) (q09 : List Nat) (q0e : Int) (q0h : Nat) (q0g : Nat) (i : Int) (q0z : Nat) (q1s : Nat) (q1k : Nat) (q0q : Nat) : Bool := (za6 q00 q03 q02 q05 q01 q04 q06 q09 q0e q0h q0g i q0z q1s q1k q0q).isSome
noncomputable def zd4 (q00 : Nat) (q03 : List Nat) (q02 : Nat) (q05 : List Nat) (q01 : Nat) (q04 : List Nat) (q06 : Nat) (q09 : List Nat) (q0e : Int) (q0h : Nat) (q0g : Nat) (i : Int) (q0z : Nat) (q1s : Nat) (q1k : Nat) (q0q : Nat) : Nat := ((za6 q00 q03 q02 q05 q01 q04 q06 q09 q0e q0h q0g i q0z q1s q1k q0q).getD default).1
noncomputable def zgj (q00 : Nat) (q03 : List Nat) (q02 : Nat) (q05 : List Nat) (q01 : Nat) (q04 : List Nat) (q06 : Nat) (q09 : List Nat) (q0e : Int) (q0h : Nat) (q0g : Nat) (i : Int) (q0z : Nat) (q1s : Nat) (q1k : Nat) (q0q : Nat) : Bool := ((za6 q00 q03 q02 q05 q01 q04 q06 q09 q0e q0h q0g i q0z q1s q1k q0q).getD default).2
theorem zrm {q00 : Nat} {q03 : List Nat} {q02 : Nat} {q05 : List Nat} {q01 : Nat} {q04 : List Nat} {q06 : Nat} {q09 : List Nat} {q0e : Int} {q0h : Nat} {q0g : Nat} {i : Int} {q0z : Nat} {q1s : Nat} {q1k : Nat} {q0q : Nat} {r : Nat × Bool} (h : za6 q00 q03 q02 q05 q01 q04 q06 q09 q0e q0h q0g i q0z q1s q1k q0q = some r) : zi1 q00 q03 q02 q05 q01 q04 q06 q09 q0e q0h q0g i q0z q1s q1k q0q = true ∧ zd4 q00 q03 q02 q05 q01 q04 q06 q09 q0e q0h q0g i q0z q1s q1k q0q = r.1 ∧ zgj q00 q03 q02 q05 q01 q04 q06 q09 q0e q0h q0g i q0z q1s q1k q0q = r.2 := by
  unfold zi1 zd4 zgj
  rw [h]
  exact ⟨rfl, rfl, rfl⟩
noncomputable def z8i {R : Type} (q08 : Nat) (q0f : List Nat) (q0b : Nat) (q0i : List Nat) (q0a : Nat) (q0j : List Nat) (q0d : Nat) (q0r : List Nat) (q12 : Int) (q1e : Nat) (q1f : Nat) (aI : Int) (q32 : Nat) (q31 : Nat) (q2t : Nat) (q2s : Nat) (k_ : Bool → Option R) : Option R := (grd (zhg q08 (pF q0f 0 (muN q08 1)) q0b (pF q0i 0 (muN q0b 1)) q0a (pF q0j 0 (muN q0a 1)) q0d (pF q0r 0 (muN q0d 3)) q12 q1e q1f 1048576) (br (ltI (zg0 q08 (pF q0f 0 (muN q08 1)) q0b (pF q0i 0 (muN q0b 1)) q0a (pF q0j 0 (muN q0a 1)) q0d (pF q0r 0 (muN q0d 3)) q12 q1e q1f 1048576) 0) (k_ Bool.true) (grd (zc8 q08 (pF q0f 0 (muN q08 1)) q0b (pF q0i 0 (muN q0b 1)) q0a (pF q0j 0 (muN q0a 1)) q0d (pF q0r 0 (muN q0d 3)) q12 q1e q1f) (grd (zia (z1k q08 (pF q0f 0 (muN q08 1)) q0b (pF q0i 0 (muN q0b 1)) q0a (pF q0j 0 (muN q0a 1)) q0d (pF q0r 0 (muN q0d 3)) q12 q1e q1f) (pF (z5x q08 (pF q0f 0 (muN q08 1)) q0b (pF q0i 0 (muN q0b 1)) q0a (pF q0j 0 (muN q0a 1)) q0d (pF q0r 0 (muN q0d 3)) q12 q1e q1f) 0 (muN (z1k q08 (pF q0f 0 (muN q08 1)) q0b (pF q0i 0 (muN q0b 1)) q0a (pF q0j 0 (muN q0a 1)) q0d (pF q0r 0 (muN q0d 3)) q12 q1e q1f) 1)) (z1l q08 (pF q0f 0 (muN q08 1)) q0b (pF q0i 0 (muN q0b 1)) q0a (pF q0j 0 (muN q0a 1)) q0d (pF q0r 0 (muN q0d 3)) q12 q1e q1f) (pF (z5u q08 (pF q0f 0 (muN q08 1)) q0b (pF q0i 0 (muN q0b 1)) q0a (pF q0j 0 (muN q0a 1)) q0d (pF q0r 0 (muN q0d 3)) q12 q1e q1f) 0 (muN (z1l q08 (pF q0f 0 (muN q08 1)) q0b (pF q0i 0 (muN q0b 1)) q0a (pF q0j 0 (muN q0a 1)) q0d (pF q0r 0 (muN q0d 3)) q12 q1e q1f) 1)) (z1m q08 (pF q0f 0 (muN q08 1)) q0b (pF q0i 0 (muN q0b 1)) q0a (pF q0j 0 (muN q0a 1)) q0d (pF q0r 0 (muN q0d 3)) q12 q1e q1f) (pF (z5q q08 (pF q0f 0 (muN q08 1)) q0b (pF q0i 0 (muN q0b 1)) q0a (pF q0j 0 (muN q0a 1)) q0d (pF q0r 0 (muN q0d 3)) q12 q1e q1f) 0 (muN (z1m q08 (pF q0f 0 (muN q08 1)) q0b (pF q0i 0 (muN q0b 1)) q0a (pF q0j 0 (muN q0a 1)) q0d (pF q0r 0 (muN q0d 3)) q12 q1e q1f) 1)) (z1n q08 (pF q0f 0 (muN q08 1)) q0b (pF q0i 0 (muN q0b 1)) q0a (pF q0j 0 (muN q0a 1)) q0d (pF q0r 0 (muN q0d 3)) q12 q1e q1f) (pF (z5t q08 (pF q0f 0 (muN q08 1)) q0b (pF q0i 0 (muN q0b 1)) q0a (pF q0j 0 (muN q0a 1)) q0d (pF q0r 0 (muN q0d 3)) q12 q1e q1f) 0 (muN (z1n q08 (pF q0f 0 (muN q08 1)) q0b (pF q0i 0 (muN q0b 1)) q0a (pF q0j 0 (muN q0a 1)) q0d (pF q0r 0 (muN q0d 3)) q12 q1e q1f) 3)) q12 q1e q1f aI q32 q31 q2t q2s) (grd (zc8 q08 (pF q0f 0 (muN q08 1)) q0b (pF q0i 0 (muN q0b 1)) q0a (pF q0j 0 (muN q0a 1)) q0d (pF q0r 0 (muN q0d 3)) q12 q1e q1f) (grd (zi1 (z1k q08 (pF q0f 0 (muN q08 1)) q0b (pF q0i 0 (muN q0b 1)) q0a (pF q0j 0 (muN q0a 1)) q0d (pF q0r 0 (muN q0d 3)) q12 q1e q1f) (pF (z5x q08 (pF q0f 0 (muN q08 1)) q0b (pF q0i 0 (muN q0b 1)) q0a (pF q0j 0 (muN q0a 1)) q0d (pF q0r 0 (muN q0d 3)) q12 q1e q1f) 0 (muN (z1k q08 (pF q0f 0 (muN q08 1)) q0b (pF q0i 0 (muN q0b 1)) q0a (pF q0j 0 (muN q0a 1)) q0d (pF q0r 0 (muN q0d 3)) q12 q1e q1f) 1)) (z1l q08 (pF q0f 0 (muN q08 1)) q0b (pF q0i 0 (muN q0b 1)) q0a (pF q0j 0 (muN q0a 1)) q0d (pF q0r 0 (muN q0d 3)) q12 q1e q1f) (pF (z5u q08 (pF q0f 0 (muN q08 1)) q0b (pF q0i 0 (muN q0b 1)) q0a (pF q0j 0 (muN q0a 1)) q0d (pF q0r 0 (muN q0d 3)) q12 q1e q1f) 0 (muN (z1l q08 (pF q0f 0 (muN q08 1)) q0b (pF q0i 0 (muN q0b 1)) q0a (pF q0j 0 (muN q0a 1)) q0d (pF q0r 0 (muN q0d 3)) q12 q1e q1f) 1)) (z1m q08 (pF q0f 0 (muN q08 1)) q0b (pF q0i 0 (muN q0b 1)) q0a (pF q0j 0 (muN q0a 1)) q0d (pF q0r 0 (muN q0d 3)) q12 q1e q1f) (pF (z5q q08 (pF q0f 0 (muN q08 1)) q0b (pF q0i 0 (muN q0b 1)) q0a (pF q0j 0 (muN q0a 1)) q0d (pF q0r 0 (muN q0d 3)) q12 q1e q1f) 0 (muN (z1m q08 (pF q0f 0 (muN q08 1)) q0b (pF q0i 0 (muN q0b 1)) q0a (pF q0j 0 (muN q0a 1)) q0d (pF q0r 0 (muN q0d 3)) q12 q1e q1f) 1)) (z1n q08 (pF q0f 0 (muN q08 1)) q0b (pF q0i 0 (muN q0b 1)) q0a (pF q0j 0 (muN q0a 1)) q0d (pF q0r 0 (muN q0d 3)) q12 q1e q1f) (pF (z5t q08 (pF q0f 0 (muN q08 1)) q0b (pF q0i 0 (muN q0b 1)) q0a (pF q0j 0 (muN q0a 1)) q0d (pF q0r 0 (muN q0d 3)) q12 q1e q1f) 0 (muN (z1n q08 (pF q0f 0 (muN q08 1)) q0b (pF q0i 0 (muN q0b 1)) q0a (pF q0j 0 (muN q0a 1)) q0d (pF q0r 0 (muN q0d 3)) q12 q1e q1f) 3)) q12 q1e q1f aI q32 q31 q2t q2s) (grd (z88 (fcvV FloatKind.f32 FloatKind.f64 (zd4 (z1k q08 (pF q0f 0 (muN q08 1)) q0b (pF q0i 0 (muN q0b 1)) q0a (pF q0j 0 (muN q0a 1)) q0d (pF q0r 0 (muN q0d 3)) q12 q1e q1f) (pF (z5x q08 (pF q0f 0 (muN q08 1)) q0b (pF q0i 0 (muN q0b 1)) q0a (pF q0j 0 (muN q0a 1)) q0d (pF q0r 0 (muN q0d 3)) q12 q1e q1f) 0 (muN (z1k q08 (pF q0f 0 (muN q08 1)) q0b (pF q0i 0 (muN q0b 1)) q0a (pF q0j 0 (muN q0a 1)) q0d (pF q0r 0 (muN q0d 3)) q12 q1e q1f) 1)) (z1l q08 (pF q0f 0 (muN q08 1)) q0b (pF q0i 0 (muN q0b 1)) q0a (pF q0j 0 (muN q0a 1)) q0d (pF q0r 0 (muN q0d 3)) q12 q1e q1f) (pF (z5u q08 (pF q0f 0 (muN q08 1)) q0b (pF q0i 0 (muN q0b 1)) q0a (pF q0j 0 (muN q0a 1)) q0d (pF q0r 0 (muN q0d 3)) q12 q1e q1f) 0 (muN (z1l q08 (pF q0f 0 (muN q08 1)) q0b (pF q0i 0 (muN q0b 1)) q0a (pF q0j 0 (muN q0a 1)) q0d (pF q0r 0 (muN q0d 3)) q12 q1e q1f) 1)) (z1m q08 (pF q0f 0 (muN q08 1)) q0b (pF q0i 0 (muN q0b 1)) q0a (pF q0j 0 (muN q0a 1)) q0d (pF q0r 0 (muN q0d 3)) q12 q1e q1f) (pF (z5q q08 (pF q0f 0 (muN q08 1)) q0b (pF q0i 0 (muN q0b 1)) q0a (pF q0j 0 (muN q0a 1)) q0d (pF q0r 0 (muN q0d 3)) q12 q1e q1f) 0 (muN (z1m q08 (pF q0f 0 (muN q08 1)) q0b (pF q0i 0 (muN q0b 1)) q0a (pF q0j 0 (muN q0a 1)) q0d (pF q0r 0 (muN q0d 3)) q12 q1e q1f) 1)) (z1n q08 (pF q0f 0 (muN q08 1)) q0b (pF q0i 0 (muN q0b 1)) q0a (pF q0j 0 (muN q0a 1)) q0d (pF q0r 0 (muN q0d 3)) q12 q1e q1f) (pF (z5t q08 (pF q0f 0 (muN q08 1)) q0b (pF q0i 0 (muN q0b 1)) q0a (pF q0j 0 (muN q0a 1)) q0d (pF q0r 0 (muN q0d 3)) q12 q1e q1f) 0 (muN (z1n q08 (pF q0f 0 (muN q08 1)) q0b (pF q0i 0 (muN q0b 1)) q0a (pF q0j 0 (muN q0a 1)) q0d (pF q0r 0 (muN q0d 3)) q12 q1e q1f) 3)) q12 q1e q1f aI q32 q31 q2t q2s)) (fcvV FloatKind.f32 FloatKind.f64 (zd3 (z1k q08 (pF q0f 0 (muN q08 1)) q0b (pF q0i 0 (muN q0b 1)) q0a (pF q0j 0 (muN q0a 1)) q0d (pF q0r 0 (muN q0d 3)) q12 q1e q1f) (pF (z5x q08 (pF q0f 0 (muN q08 1)) q0b (pF q0i 0 (muN q0b 1)) q0a (pF q0j 0 (muN q0a 1)) q0d (pF q0r 0 (muN q0d 3)) q12 q1e q1f) 0 (muN (z1k q08 (pF q0f 0 (muN q08 1)) q0b (pF q0i 0 (muN q0b 1)) q0a (pF q0j 0 (muN q0a 1)) q0d (pF q0r 0 (muN q0d 3)) q12 q1e q1f) 1)) (z1l q08 (pF q0f 0 (muN q08 1)) q0b (pF q0i 0 (muN q0b 1)) q0a (pF q0j 0 (muN q0a 1)) q0d (pF q0r 0 (muN q0d 3)) q12 q1e q1f) (pF (z5u q08 (pF q0f 0 (muN q08 1)) q0b (pF q0i 0 (muN q0b 1)) q0a (pF q0j 0 (muN q0a 1)) q0d (pF q0r 0 (muN q0d 3)) q12 q1e q1f) 0 (muN (z1l q08 (pF q0f 0 (muN q08 1)) q0b (pF q0i 0 (muN q0b 1)) q0a (pF q0j 0 (muN q0a 1)) q0d (pF q0r 0 (muN q0d 3)) q12 q1e q1f) 1)) (z1m q08 (pF q0f 0 (muN q08 1)) q0b (pF q0i 0 (muN q0b 1)) q0a (pF q0j 0 (muN q0a 1)) q0d (pF q0r 0 (muN q0d 3)) q12 q1e q1f) (pF (z5q q08 (pF q0f 0 (muN q08 1)) q0b (pF q0i 0 (muN q0b 1)) q0a (pF q0j 0 (muN q0a 1)) q0d (pF q0r 0 (muN q0d 3)) q12 q1e q1f) 0 (muN (z1m q08 (pF q0f 0 (muN q08 1)) q0b (pF q0i 0 (muN q0b 1)) q0a (pF q0j 0 (muN q0a 1)) q0d (pF q0r 0 (muN q0d 3)) q12 q1e q1f) 1)) (z1n q08 (pF q0f 0 (muN q08 1)) q0b (pF q0i 0 (muN q0b 1)) q0a (pF q0j 0 (muN q0a 1)) q0d (pF q0r 0 (muN q0d 3)) q12 q1e q1f) (pF (z5t q08 (pF q0f 0 (muN q08 1)) q0b (pF q0i 0 (muN q0b 1)) q0a (pF q0j 0 (muN q0a 1)) q0d (pF q0r 0 (muN q0d 3)) q12 q1e q1f) 0 (muN (z1n q08 (pF q0f 0 (muN q08 1)) q0b (pF q0i 0 (muN q0b 1)) q0a (pF q0j 0 (muN q0a 1)) q0d (pF q0r 0 (muN q0d 3)) q12 q1e q1f) 3)) q12 q1e q1f aI q32 q31 q2t q2s))) (br (bnot (z7t (fcvV FloatKind.f32 FloatKind.f64 (zd4 (z1k q08 (pF q0f 0 (muN q08 1)) q0b (pF q0i 0 (muN q0b 1)) q0a (pF q0j 0 (muN q0a 1)) q0d (pF q0r 0 (muN q0d 3)) q12 q1e q1f) (pF (z5x q08 (pF q0f 0 (muN q08 1)) q0b (pF q0i 0 (muN q0b 1)) q0a (pF q0j 0 (muN q0a 1)) q0d (pF q0r 0 (muN q0d 3)) q12 q1e q1f) 0 (muN (z1k q08 (pF q0f 0 (muN q08 1)) q0b (pF q0i 0 (muN q0b 1)) q0a (pF q0j 0 (muN q0a 1)) q0d (pF q0r 0 (muN q0d 3)) q12 q1e q1f) 1)) (z1l q08 (pF q0f 0 (muN q08 1)) q0b (pF q0i 0 (muN q0b 1)) q0a (pF q0j 0 (muN q0a 1)) q0d (pF q0r 0 (muN q0d 3)) q12 q1e q1f) (pF (z5u q08 (pF q0f 0 (muN q08 1)) q0b (pF q0i 0 (muN q0b 1)) q0a (pF q0j 0 (muN q0a 1)) q0d (pF q0r 0 (muN q0d 3)) q12 q1e q1f) 0 (muN (z1l q08 (pF q0f 0 (muN q08 1)) q0b (pF q0i 0 (muN q0b 1)) q0a (pF q0j 0 (muN q0a 1)) q0d (pF q0r 0 (muN q0d 3)) q12 q1e q1f) 1)) (z1m q08 (pF q0f 0 (muN q08 1)) q0b (pF q0i 0 (muN q0b 1)) q0a (pF q0j 0 (muN q0a 1)) q0d (pF q0r 0 (muN q0d 3)) q12 q1e q1f) (pF (z5q q08 (pF q0f 0 (muN q08 1)) q0b (pF q0i 0 (muN q0b 1)) q0a (pF q0j 0 (muN q0a 1)) q0d (pF q0r 0 (muN q0d 3)) q12 q1e q1f) 0 (muN (z1m q08 (pF q0f 0 (muN q08 1)) q0b (pF q0i 0 (muN q0b 1)) q0a (pF q0j 0 (muN q0a 1)) q0d (pF q0r 0 (muN q0d 3)) q12 q1e q1f) 1)) (z1n q08 (pF q0f 0 (muN q08 1)) q0b (pF q0i 0 (muN q0b 1)) q0a (pF q0j 0 (muN q0a 1)) q0d (pF q0r 0 (muN q0d 3)) q12 q1e q1f) (pF (z5t q08 (pF q0f 0 (muN q08 1)) q0b (pF q0i 0 (muN q0b 1)) q0a (pF q0j 0 (muN q0a 1)) q0d (pF q0r 0 (muN q0d 3)) q12 q1e q1f) 0 (muN (z1n q08 (pF q0f 0 (muN q08 1)) q0b (pF q0i 0 (muN q0b 1)) q0a (pF q0j 0 (muN q0a 1)) q0d (pF q0r 0 (muN q0d 3)) q12 q1e q1f) 3)) q12 q1e q1f aI q32 q31 q2t q2s)) (fcvV FloatKind.f32 FloatKind.f64 (zd3 (z1k q08 (pF q0f 0 (muN q08 1)) q0b (pF q0i 0 (muN q0b 1)) q0a (pF q0j 0 (muN q0a 1)) q0d (pF q0r 0 (muN q0d 3)) q12 q1e q1f) (pF (z5x q08 (pF q0f 0 (muN q08 1)) q0b (pF q0i 0 (muN q0b 1)) q0a (pF q0j 0 (muN q0a 1)) q0d (pF q0r 0 (muN q0d 3)) q12 q1e q1f) 0 (muN (z1k q08 (pF q0f 0 (muN q08 1)) q0b (pF q0i 0 (muN q0b 1)) q0a (pF q0j 0 (muN q0a 1)) q0d (pF q0r 0 (muN q0d 3)) q12 q1e q1f) 1)) (z1l q08 (pF q0f 0 (muN q08 1)) q0b (pF q0i 0 (muN q0b 1)) q0a (pF q0j 0 (muN q0a 1)) q0d (pF q0r 0 (muN q0d 3)) q12 q1e q1f) (pF (z5u q08 (pF q0f 0 (muN q08 1)) q0b (pF q0i 0 (muN q0b 1)) q0a (pF q0j 0 (muN q0a 1)) q0d (pF q0r 0 (muN q0d 3)) q12 q1e q1f) 0 (muN (z1l q08 (pF q0f 0 (muN q08 1)) q0b (pF q0i 0 (muN q0b 1)) q0a (pF q0j 0 (muN q0a 1)) q0d (pF q0r 0 (muN q0d 3)) q12 q1e q1f) 1)) (z1m q08 (pF q0f 0 (muN q08 1)) q0b (pF q0i 0 (muN q0b 1)) q0a (pF q0j 0 (muN q0a 1)) q0d (pF q0r 0 (muN q0d 3)) q12 q1e q1f) (pF (z5q q08 (pF q0f 0 (muN q08 1)) q0b (pF q0i 0 (muN q0b 1)) q0a (pF q0j 0 (muN q0a 1)) q0d (pF q0r 0 (muN q0d 3)) q12 q1e q1f) 0 (muN (z1m q08 (pF q0f 0 (muN q08 1)) q0b (pF q0i 0 (muN q0b 1)) q0a (pF q0j 0 (muN q0a 1)) q0d (pF q0r 0 (muN q0d 3)) q12 q1e q1f) 1)) (z1n q08 (pF q0f 0 (muN q08 1)) q0b (pF q0i 0 (muN q0b 1)) q0a (pF q0j 0 (muN q0a 1)) q0d (pF q0r 0 (muN q0d 3)) q12 q1e q1f) (pF (z5t q08 (pF q0f 0 (muN q08 1)) q0b (pF q0i 0 (muN q0b 1)) q0a (pF q0j 0 (muN q0a 1)) q0d (pF q0r 0 (muN q0d 3)) q12 q1e q1f) 0 (muN (z1n q08 (pF q0f 0 (muN q08 1)) q0b (pF q0i 0 (muN q0b 1)) q0a (pF q0j 0 (muN q0a 1)) q0d (pF q0r 0 (muN q0d 3)) q12 q1e q1f) 3)) q12 q1e q1f aI q32 q31 q2t q2s)))) (k_ Bool.false) (br (bnot (beqB (zgj (z1k q08 (pF q0f 0 (muN q08 1)) q0b (pF q0i 0 (muN q0b 1)) q0a (pF q0j 0 (muN q0a 1)) q0d (pF q0r 0 (muN q0d 3)) q12 q1e q1f) (pF (z5x q08 (pF q0f 0 (muN q08 1)) q0b (pF q0i 0 (muN q0b 1)) q0a (pF q0j 0 (muN q0a 1)) q0d (pF q0r 0 (muN q0d 3)) q12 q1e q1f) 0 (muN (z1k q08 (pF q0f 0 (muN q08 1)) q0b (pF q0i 0 (muN q0b 1)) q0a (pF q0j 0 (muN q0a 1)) q0d (pF q0r 0 (muN q0d 3)) q12 q1e q1f) 1)) (z1l q08 (pF q0f 0 (muN q08 1)) q0b (pF q0i 0 (muN q0b 1)) q0a (pF q0j 0 (muN q0a 1)) q0d (pF q0r 0 (muN q0d 3)) q12 q1e q1f) (pF (z5u q08 (pF q0f 0 (muN q08 1)) q0b (pF q0i 0 (muN q0b 1)) q0a (pF q0j 0 (muN q0a 1)) q0d (pF q0r 0 (muN q0d 3)) q12 q1e q1f) 0 (muN (z1l q08 (pF q0f 0 (muN q08 1)) q0b (pF q0i 0 (muN q0b 1)) q0a (pF q0j 0 (muN q0a 1)) q0d (pF q0r 0 (muN q0d 3)) q12 q1e q1f) 1)) (z1m q08 (pF q0f 0 (muN q08 1)) q0b (pF q0i 0 (muN q0b 1)) q0a (pF q0j 0 (muN q0a 1)) q0d (pF q0r 0 (muN q0d 3)) q12 q1e q1f) (pF (z5q q08 (pF q0f 0 (muN q08 1)) q0b (pF q0i 0 (muN q0b 1)) q0a (pF q0j 0 (muN q0a 1)) q0d (pF q0r 0 (muN q0d 3)) q12 q1e q1f) 0 (muN (z1m q08 (pF q0f 0 (muN q08 1)) q0b (pF q0i 0 (muN q0b 1)) q0a (pF q0j 0 (muN q0a 1)) q0d (pF q0r 0 (muN q0d 3)) q12 q1e q1f) 1)) (z1n q08 (pF q0f 0 (muN q08 1)) q0b (pF q0i 0 (muN q0b 1)) q0a (pF q0j 0 (muN q0a 1)) q0d (pF q0r 0 (muN q0d 3)) q12 q1e q1f) (pF (z5t q08 (pF q0f 0 (muN q08 1)) q0b (pF q0i 0 (muN q0b 1)) q0a (pF q0j 0 (muN q0a 1)) q0d (pF q0r 0 (muN q0d 3)) q12 q1e q1f) 0 (muN (z1n q08 (pF q0f 0 (muN q08 1)) q0b (pF q0i 0 (muN q0b 1)) q0a (pF q0j 0 (muN q0a 1)) q0d (pF q0r 0 (muN q0d 3)) q12 q1e q1f) 3)) q12 q1e q1f aI q32 q31 q2t q2s) (zgy (z1k q08 (pF q0f 0 (muN q08 1)) q0b (pF q0i 0 (muN q0b 1)) q0a (pF q0j 0 (muN q0a 1)) q0d (pF q0r 0 (muN q0d 3)) q12 q1e q1f) (pF (z5x q08 (pF q0f 0 (muN q08 1)) q0b (pF q0i 0 (muN q0b 1)) q0a (pF q0j 0 (muN q0a 1)) q0d (pF q0r 0 (muN q0d 3)) q12 q1e q1f) 0 (muN (z1k q08 (pF q0f 0 (muN q08 1)) q0b (pF q0i 0 (muN q0b 1)) q0a (pF q0j 0 (muN q0a 1)) q0d (pF q0r 0 (muN q0d 3)) q12 q1e q1f) 1)) (z1l q08 (pF q0f 0 (muN q08 1)) q0b (pF q0i 0 (muN q0b 1)) q0a (pF q0j 0 (muN q0a 1)) q0d (pF q0r 0 (muN q0d 3)) q12 q1e q1f) (pF (z5u q08 (pF q0f 0 (muN q08 1)) q0b (pF q0i 0 (muN q0b 1)) q0a (pF q0j 0 (muN q0a 1)) q0d (pF q0r 0 (muN q0d 3)) q12 q1e q1f) 0 (muN (z1l q08 (pF q0f 0 (muN q08 1)) q0b (pF q0i 0 (muN q0b 1)) q0a (pF q0j 0 (muN q0a 1)) q0d (pF q0r 0 (muN q0d 3)) q12 q1e q1f) 1)) (z1m q08 (pF q0f 0 (muN q08 1)) q0b (pF q0i 0 (muN q0b 1)) q0a (pF q0j 0 (muN q0a 1)) q0d (pF q0r 0 (muN q0d 3)) q12 q1e q1f) (pF (z5q q08 (pF q0f 0 (muN q08 1)) q0b (pF q0i 0 (muN q0b 1)) q0a (pF q0j 0 (muN q0a 1)) q0d (pF q0r 0 (muN q0d 3)) q12 q1e q1f) 0 (muN (z1m q08 (pF q0f 0 (muN q08 1)) q0b (pF q0i 0 (muN q0b 1)) q0a (pF q0j 0 (muN q0a 1)) q0d (pF q0r 0 (muN q0d 3)) q12 q1e q1f) 1)) (z1n q08 (pF q0f 0 (muN q08 1)) q0b (pF q0i 0 (muN q0b 1)) q0a (pF q0j 0 (muN q0a 1)) q0d (pF q0r 0 (muN q0d 3)) q12 q1e q1f) (pF (z5t q08 (pF q0f 0 (muN q08 1)) q0b (pF q0i 0 (muN q0b 1)) q0a (pF q0j 0 (muN q0a 1)) q0d (pF q0r 0 (muN q0d 3)) q12 q1e q1f) 0 (muN (z1n q08 (pF q0f 0 (muN q08 1)) q0b (pF q0i 0 (muN q0b 1)) q0a (pF q0j 0 (muN q0a 1)) q0d (pF q0r 0 (muN q0d 3)) q12 q1e q1f) 3)) q12 q1e q1f aI q32 q31 q2t q2s))) (k_ Bool.false) (grd (zc8 q08 (pF q0f 0 (muN q08 1)) q0b (pF q0i 0 (muN q0b 1)) q0a (pF q0j 0 (muN q0a 1)) q0d (pF q0r 0 (muN q0d 3)) q12 q1e q1f) (grd (zhp (z1k q08 (pF q0f 0 (muN q08 1)) q0b (pF q0i 0 (muN q0b 1)) q0a (pF q0j 0 (muN q0a 1)) q0d (pF q0r 0 (muN q0d 3)) q12 q1e q1f) (pF (z5x q08 (pF q0f 0 (muN q08 1)) q0b (pF q0i 0 (muN q0b 1)) q0a (pF q0j 0 (muN q0a 1)) q0d (pF q0r 0 (muN q0d 3)) q12 q1e q1f) 0 (muN (z1k q08 (pF q0f 0 (muN q08 1)) q0b (pF q0i 0 (muN q0b 1)) q0a (pF q0j 0 (muN q0a 1)) q0d (pF q0r 0 (muN q0d 3)) q12 q1e q1f) 1)) (z1l q08 (pF q0f 0 (muN q08 1)) q0b (pF q0i 0 (muN q0b 1)) q0a (pF q0j 0 (muN q0a 1)) q0d (pF q0r 0 (muN q0d 3)) q12 q1e q1f) (pF (z5u q08 (pF q0f 0 (muN q08 1)) q0b (pF q0i 0 (muN q0b 1)) q0a (pF q0j 0 (muN q0a 1)) q0d (pF q0r 0 (muN q0d 3)) q12 q1e q1f) 0 (muN (z1l q08 (pF q0f 0 (muN q08 1)) q0b (pF q0i 0 (muN q0b 1)) q0a (pF q0j 0 (muN q0a 1)) q0d (pF q0r 0 (muN q0d 3)) q12 q1e q1f) 1)) (z1m q08 (pF q0f 0 (muN q08 1)) q0b (pF q0i 0 (muN q0b 1)) q0a (pF q0j 0 (muN q0a 1)) q0d (pF q0r 0 (muN q0d 3)) q12 q1e q1f) (pF (z5q q08 (pF q0f 0 (muN q08 1)) q0b (pF q0i 0 (muN q0b 1)) q0a (pF q0j 0 (muN q0a 1)) q0d (pF q0r 0 (muN q0d 3)) q12 q1e q1f) 0 (muN (z1m q08 (pF q0f 0 (muN q08 1)) q0b (pF q0i 0 (muN q0b 1)) q0a (pF q0j 0 (muN q0a 1)) q0d (pF q0r 0 (muN q0d 3)) q12 q1e q1f) 1)) (z1n q08 (pF q0f 0 (muN q08 1)) q0b (pF q0i 0 (muN q0b 1)) q0a (pF q0j 0 (muN q0a 1)) q0d (pF q0r 0 (muN q0d 3)) q12 q1e q1f) (pF (z5t q08 (pF q0f 0 (muN q08 1)) q0b (pF q0i 0 (muN q0b 1)) q0a (pF q0j 0 (muN q0a 1)) q0d (pF q0r 0 (muN q0d 3)) q12 q1e q1f) 0 (muN (z1n q08 (pF q0f 0 (muN q08 1)) q0b (pF q0i 0 (muN q0b 1)) q0a (pF q0j 0 (muN q0a 1)) q0d (pF q0r 0 (muN q0d 3)) q12 q1e q1f) 3)) q12 q1e q1f (z1k q08 (pF q0f 0 (muN q08 1)) q0b (pF q0i 0 (muN q0b 1)) q0a (pF q0j 0 (muN q0a 1)) q0d (pF q0r 0 (muN q0d 3)) q12 q1e q1f) (pF (z5x q08 (pF q0f 0 (muN q08 1)) q0b (pF q0i 0 (muN q0b 1)) q0a (pF q0j 0 (muN q0a 1)) q0d (pF q0r 0 (muN q0d 3)) q12 q1e q1f) 0 (muN (z1k q08 (pF q0f 0 (muN q08 1)) q0b (pF q0i 0 (muN q0b 1)) q0a (pF q0j 0 (muN q0a 1)) q0d (pF q0r 0 (muN q0d 3)) q12 q1e q1f) 1)) (z1l q08 (pF q0f 0 (muN q08 1)) q0b (pF q0i 0 (muN q0b 1)) q0a (pF q0j 0 (muN q0a 1)) q0d (pF q0r 0 (muN q0d 3)) q12 q1e q1f) (pF (z5u q08 (pF q0f 0 (muN q08 1)) q0b (pF q0i 0 (muN q0b 1)) q0a (pF q0j 0 (muN q0a 1)) q0d (pF q0r 0 (muN q0d 3)) q12 q1e q1f) 0 (muN (z1l q08 (pF q0f 0 (muN q08 1)) q0b (pF q0i 0 (muN q0b 1)) q0a (pF q0j 0 (muN q0a 1)) q0d (pF q0r 0 (muN q0d 3)) q12 q1e q1f) 1)) (z1m q08 (pF q0f 0 (muN q08 1)) q0b (pF q0i 0 (muN q0b 1)) q0a (pF q0j 0 (muN q0a 1)) q0d (pF q0r 0 (muN q0d 3)) q12 q1e q1f) (pF (z5q q08 (pF q0f 0 (muN q08 1)) q0b (pF q0i 0 (muN q0b 1)) q0a (pF q0j 0 (muN q0a 1)) q0d (pF q0r 0 (muN q0d 3)) q12 q1e q1f) 0 (muN (z1m q08 (pF q0f 0 (muN q08 1)) q0b (pF q0i 0 (muN q0b 1)) q0a (pF q0j 0 (muN q0a 1)) q0d (pF q0r 0 (muN q0d 3)) q12 q1e q1f) 1)) (z1n q08 (pF q0f 0 (muN q08 1)) q0b (pF q0i 0 (muN q0b 1)) q0a (pF q0j 0 (muN q0a 1)) q0d (pF q0r 0 (muN q0d 3)) q12 q1e q1f) (pF (z5t q08 (pF q0f 0 (muN q08 1)) q0b (pF q0i 0 (muN q0b 1)) q0a (pF q0j 0 (muN q0a 1)) q0d (pF q0r 0 (muN q0d 3)) q12 q1e q1f) 0 (muN (z1n q08 (pF q0f 0 (muN q08 1)) q0b (pF q0i 0 (muN q0b 1)) q0a (pF q0j 0 (muN q0a 1)) q0d (pF q0r 0 (muN q0d 3)) q12 q1e q1f) 3)) q12 q1e q1f) (br (bnot (zg1 (z1k q08 (pF q0f 0 (muN q08 1)) q0b (pF q0i 0 (muN q0b 1)) q0a (pF q0j 0 (muN q0a 1)) q0d (pF q0r 0 (muN q0d 3)) q12 q1e q1f) (pF (z5x q08 (pF q0f 0 (muN q08 1)) q0b (pF q0i 0 (muN q0b 1)) q0a (pF q0j 0 (muN q0a 1)) q0d (pF q0r 0 (muN q0d 3)) q12 q1e q1f) 0 (muN (z1k q08 (pF q0f 0 (muN q08 1)) q0b (pF q0i 0 (muN q0b 1)) q0a (pF q0j 0 (muN q0a 1)) q0d (pF q0r 0 (muN q0d 3)) q12 q1e q1f) 1)) (z1l q08 (pF q0f 0 (muN q08 1)) q0b (pF q0i 0 (muN q0b 1)) q0a (pF q0j 0 (muN q0a 1)) q0d (pF q0r 0 (muN q0d 3)) q12 q1e q1f) (pF (z5u q08 (pF q0f 0 (muN q08 1)) q0b (pF q0i 0 (muN q0b 1)) q0a (pF q0j 0 (muN q0a 1)) q0d (pF q0r 0 (muN q0d 3)) q12 q1e q1f) 0 (muN (z1l q08 (pF q0f 0 (muN q08 1)) q0b (pF q0i 0 (muN q0b 1)) q0a (pF q0j 0 (muN q0a 1)) q0d (pF q0r 0 (muN q0d 3)) q12 q1e q1f) 1)) (z1m q08 (pF q0f 0 (muN q08 1)) q0b (pF q0i 0 (muN q0b 1)) q0a (pF q0j 0 (muN q0a 1)) q0d (pF q0r 0 (muN q0d 3)) q12 q1e q1f) (pF (z5q q08 (pF q0f 0 (muN q08 1)) q0b (pF q0i 0 (muN q0b 1)) q0a (pF q0j 0 (muN q0a 1)) q0d (pF q0r 0 (muN q0d 3)) q12 q1e q1f) 0 (muN (z1m q08 (pF q0f 0 (muN q08 1)) q0b (pF q0i 0 (muN q0b 1)) q0a (pF q0j 0 (muN q0a 1)) q0d (pF q0r 0 (muN q0d 3)) q12 q1e q1f) 1)) (z1n q08 (pF q0f 0 (muN q08 1)) q0b (pF q0i 0 (muN q0b 1)) q0a (pF q0j 0 (muN q0a 1)) q0d (pF q0r 0 (muN q0d 3)) q12 q1e q1f) (pF (z5t q08 (pF q0f 0 (muN q08 1)) q0b (pF q0i 0 (muN q0b 1)) q0a (pF q0j 0 (muN q0a 1)) q0d (pF q0r 0 (muN q0d 3)) q12 q1e q1f) 0 (muN (z1n q08 (pF q0f 0 (muN q08 1)) q0b (pF q0i 0 (muN q0b 1)) q0a (pF q0j 0 (muN q0a 1)) q0d (pF q0r 0 (muN q0d 3)) q12 q1e q1f) 3)) q12 q1e q1f (z1k q08 (pF q0f 0 (muN q08 1)) q0b (pF q0i 0 (muN q0b 1)) q0a (pF q0j 0 (muN q0a 1)) q0d (pF q0r 0 (muN q0d 3)) q12 q1e q1f) (pF (z5x q08 (pF q0f 0 (muN q08 1)) q0b (pF q0i 0 (muN q0b 1)) q0a (pF q0j 0 (muN q0a 1)) q0d (pF q0r 0 (muN q0d 3)) q12 q1e q1f) 0 (muN (z1k q08 (pF q0f 0 (muN q08 1)) q0b (pF q0i 0 (muN q0b 1)) q0a (pF q0j 0 (muN q0a 1)) q0d (pF q0r 0 (muN q0d 3)) q12 q1e q1f) 1)) (z1l q08 (pF q0f 0 (muN q08 1)) q0b (pF q0i 0 (muN q0b 1)) q0a (pF q0j 0 (muN q0a 1)) q0d (pF q0r 0 (muN q0d 3)) q12 q1e q1f) (pF (z5u q08 (pF q0f 0 (muN q08 1)) q0b (pF q0i 0 (muN q0b 1)) q0a (pF q0j 0 (muN q0a 1)) q0d (pF q0r 0 (muN q0d 3)) q12 q1e q1f) 0 (muN (z1l q08 (pF q0f 0 (muN q08 1)) q0b (pF q0i 0 (muN q0b 1)) q0a (pF q0j 0 (muN q0a 1)) q0d (pF q0r 0 (muN q0d 3)) q12 q1e q1f) 1)) (z1m q08 (pF q0f 0 (muN q08 1)) q0b (pF q0i 0 (muN q0b 1)) q0a (pF q0j 0 (muN q0a 1)) q0d (pF q0r 0 (muN q0d 3)) q12 q1e q1f) (pF (z5q q08 (pF q0f 0 (muN q08 1)) q0b (pF q0i 0 (muN q0b 1)) q0a (pF q0j 0 (muN q0a 1)) q0d (pF q0r 0 (muN q0d 3)) q12 q1e q1f) 0 (muN (z1m q08 (pF q0f 0 (muN q08 1)) q0b (pF q0i 0 (muN q0b 1)) q0a (pF q0j 0 (muN q0a 1)) q0d (pF q0r 0 (muN q0d 3)) q12 q1e q1f) 1)) (z1n q08 (pF q0f 0 (muN q08 1)) q0b (pF q0i 0 (muN q0b 1)) q0a (pF q0j 0 (muN q0a 1)) q0d (pF q0r 0 (muN q0d 3)) q12 q1e q1f) (pF (z5t q08 (pF q0f 0 (muN q08 1)) q0b (pF q0i 0 (muN q0b 1)) q0a (pF q0j 0 (muN q0a 1)) q0d (pF q0r 0 (muN q0d 3)) q12 q1e q1f) 0 (muN (z1n q08 (pF q0f 0 (muN q08 1)) q0b (pF q0i 0 (muN q0b 1)) q0a (pF q0j 0 (muN q0a 1)) q0d (pF q0r 0 (muN q0d 3)) q12 q1e q1f) 3)) q12 q1e q1f)) (k_ Bool.false) (k_ Bool.true)))))))))))))
noncomputable def z8h (q08 : Nat) (q0f : List Nat) (q0b : Nat) (q0i : List Nat) (q0a : Nat) (q0j : List Nat) (q0d : Nat) (q0r : List Nat) (q12 : Int) (q1e : Nat) (q1f : Nat) (aI : Int) (q32 : Nat) (q31 : Nat) (q2t : Nat) (q2s : Nat) : Option (Bool) := z8i q08 q0f q0b q0i q0a q0j q0d q0r q12 q1e q1f aI q32 q31 q2t q2s (fun c0_ => some c0_)
theorem zkw {R R' : Type} (o : Option R → Option R') (h0 : o none = none) (q08 : Nat) (q0f : List Nat) (q0b : Nat) (q0i : List Nat) (q0a : Nat) (q0j : List Nat) (q0d : Nat) (q0r : List Nat) (q12 : Int) (q1e : Nat) (q1f : Nat) (aI : Int) (q32 : Nat) (q31 : Nat) (q2t : Nat) (q2s : Nat) (k_ : Bool → Option R) : z8i q08 q0f q0b q0i q0a q0j q0d q0r q12 q1e q1f aI q32 q31 q2t q2s (fun c0_ => o (k_ c0_)) = o (z8i q08 q0f q0b q0i q0a q0j q0d q0r q12 q1e q1f aI q32 q31 q2t q2s k_) := by
  unfold z8i
  repeat (first | refine grd_out h0 ?_ | refine br_out ?_ ?_ | rfl | exact h0.symm)
noncomputable def zet (q08 : Nat) (q0f : List Nat) (q0b : Nat) (q0i : List Nat) (q0a : Nat) (q0j : List Nat) (q0d : Nat) (q0r : List Nat) (q12 : Int) (q1e : Nat) (q1f : Nat) (aI : Int) (q32 : Nat) (q31 : Nat) (q2t : Nat) (q2s : Nat) : Bool := (z8h q08 q0f q0b q0i q0a q0j q0d q0r q12 q1e q1f aI q32 q31 q2t q2s).isSome
noncomputable def zea (q08 : Nat) (q0f : List Nat) (q0b : Nat) (q0i : List Nat) (q0a : Nat) (q0j : List Nat) (q0d : Nat) (q0r : List Nat) (q12 : Int) (q1e : Nat) (q1f : Nat) (aI : Int) (q32 : Nat) (q31 : Nat) (q2t : Nat) (q2s : Nat) : Bool := ((z8h q08 q0f q0b q0i q0a q0j q0d q0r q12 q1e q1f aI q32 q31 q2t q2s).getD default)
theorem zmc {q08 : Nat} {q0f : List Nat} {q0b : Nat} {q0i : List Nat} {q0a : Nat} {q0j : List Nat} {q0d : Nat} {q0r : List Nat} {q12 : Int} {q1e : Nat} {q1f : Nat} {aI : Int} {q32 : Nat} {q31 : Nat} {q2t : Nat} {q2s : Nat} {r : Bool} (h : z8h q08 q0f q0b q0i q0a q0j q0d q0r q12 q1e q1f aI q32 q31 q2t q2s = some r) : zet q08 q0f q0b q0i q0a q0j q0d q0r q12 q1e q1f aI q32 q31 q2t q2s = true ∧ zea q08 q0f q0b q0i q0a q0j q0d q0r q12 q1e q1f aI q32 q31 q2t q2s = r := by
  unfold zet zea
  rw [h]
  exact ⟨rfl, rfl⟩
end Go.Rf
