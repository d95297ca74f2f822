import Derived.Test.YtdhmognknjpemaaB
set_option linter.unusedVariables false
set_option linter.unusedSimpArgs false
set_option maxRecDepth 100000
set_option maxHeartbeats 4000000
namespace Go.Rf
open Go
noncomputable def zhf {R : Type} (x : Nat) (k_ : Bool → Option R) : Option R := (k_ (fcmp BinOp.eql FloatKind.f32 (fop BinOp.sub FloatKind.f32 x x) 0))
noncomputable def zgz (x : Nat) : Option (Bool) := zhf x (fun c0_ => some c0_)
theorem zrs {R R' : Type} (o : Option R → Option R') (h0 : o none = none) (x : Nat) (k_ : Bool → Option R) : zhf x (fun c0_ => o (k_ c0_)) = o (zhf x k_) := by
  unfold zhf
  repeat (first | refine grd_out h0 ?_ | refine br_out ?_ ?_ | rfl | exact h0.symm)
noncomputable def z77 (x : Nat) : Bool := (zgz x).isSome
noncomputable def z6q (x : Nat) : Bool := ((zgz x).getD default)
theorem z8y {x : Nat} {r : Bool} (h : zgz x = some r) : z77 x = true ∧ z6q x = r := by
  unfold z77 z6q
  rw [h]
  exact ⟨rfl, rfl⟩
noncomputable def zd6 {R : Type} (a : Nat) (b : Nat) (k_ : Bool → Option R) : Option R := (br (fcmp BinOp.neq FloatKind.f64 a a) (br (fcmp BinOp.neq FloatKind.f64 a a) (k_ (fcmp BinOp.neq FloatKind.f64 b b)) (k_ Bool.false)) (br (fcmp BinOp.neq FloatKind.f64 b b) (br (fcmp BinOp.neq FloatKind.f64 a a) (k_ (fcmp BinOp.neq FloatKind.f64 b b)) (k_ Bool.false)) (br (fcmp BinOp.eql FloatKind.f64 a 0) (br (fcmp BinOp.eql FloatKind.f64 b 0) (k_ (beqB (fcmp BinOp.gtr FloatKind.f64 (fop BinOp.quo FloatKind.f64 4607182418800017408 a) 0) (fcmp BinOp.gtr FloatKind.f64 (fop BinOp.quo FloatKind.f64 4607182418800017408 b) 0))) (k_ (fcmp BinOp.eql FloatKind.f64 a b))) (k_ (fcmp BinOp.eql FloatKind.f64 a b)))))
noncomputable def zcs (a : Nat) (b : Nat) : Option (Bool) := zd6 a b (fun c0_ => some c0_)
theorem zrd {R R' : Type} (o : Option R → Option R') (h0 : o none = none) (a : Nat) (b : Nat) (k_ : Bool → Option R) : zd6 a b (fun c0_ => o (k_ c0_)) = o (zd6 a b k_) := by
  unfold zd6
  repeat (first | refine grd_out h0 ?_ | refine br_out ?_ ?_ | rfl | exact h0.symm)
noncomputable def z7u (a : Nat) (b : Nat) : Bool := (zcs a b).isSome
noncomputable def z7e (a : Nat) (b : Nat) : Bool := ((zcs a b).getD default)
theorem z98 {a : Nat} {b : Nat} {r : Bool} (h : zcs a b = some r) : z7u a b = true ∧ z7e a b = r := by
  unfold z7u z7e
  rw [h]
  exact ⟨rfl, rfl⟩
noncomputable def z9j {R : Type} (q04 : Nat) (q0a : List Nat) (q05 : Nat) (q0c : List Nat) (q06 : Nat) (q0b : List Nat) (q0e : Nat) (q0h : List Nat) (q0l : Int) (q0n : Nat) (q0m : Nat) (i : Int) (k_ : Nat → Option R) : Option R := (grd (okIx i q0e) (grd (okIx i q0e) (k_ (fop BinOp.quo FloatKind.f32 (fop BinOp.mul FloatKind.f32 (fOI FloatKind.f32 q0l) (gF q0h (Nat.succ (ixO 0 i 3)))) (fop BinOp.mul FloatKind.f32 1086918619 (gF q0h (ixO 0 i 3)))))))
noncomputable def z9l (q04 : Nat) (q0a : List Nat) (q05 : Nat) (q0c : List Nat) (q06 : Nat) (q0b : List Nat) (q0e : Nat) (q0h : List Nat) (q0l : Int) (q0n : Nat) (q0m : Nat) (i : Int) : Option (Nat) := z9j q04 q0a q05 q0c q06 q0b q0e q0h q0l q0n q0m i (fun c0_ => some c0_)
theorem znd {R R' : Type} (o : Option R → Option R') (h0 : o none = none) (q04 : Nat) (q0a : List Nat) (q05 : Nat) (q0c : List Nat) (q06 : Nat) (q0b : List Nat) (q0e : Nat) (q0h : List Nat) (q0l : Int) (q0n : Nat) (q0m : Nat) (i : Int) (k_ : Nat → Option R) : z9j q04 q0a q05 q0c q06 q0b q0e q0h q0l q0n q0m i (fun c0_ => o (k_ c0_)) = o (z9j q04 q0a q05 q0c q06 q0b q0e q0h q0l q0n q0m i k_) := by
  unfold z9j
  repeat (first | refine grd_out h0 ?_ | refine br_out ?_ ?_ | rfl | exact h0.symm)
noncomputable def zdu (q04 : Nat) (q0a : List Nat) (q05 : Nat) (q0c : List Nat) (q06 : Nat) (q0b : List Nat) (q0e : Nat) (q0h : List Nat) (q0l : Int) (q0n : Nat) (q0m : Nat) (i : Int) : Bool := (z9l q04 q0a q05 q0c q06 q0b q0e q0h q0l q0n q0m i).isSome
noncomputable def zal (q04 : Nat) (q0a : List Nat) (q05 : Nat) (q0c : List Nat) (q06 : Nat) (q0b : List Nat) (q0e : Nat) (q0h : List Nat) (q0l : Int) (q0n : Nat) (q0m : Nat) (i : Int) : Nat := ((z9l q04 q0a q05 q0c q06 q0b q0e q0h q0l q0n q0m i).getD default)
theorem zp7 {q04 : Nat} {q0a : List Nat} {q05 : Nat} {q0c : List Nat} {q06 : Nat} {q0b : List Nat} {q0e : Nat} {q0h : List Nat} {q0l : Int} {q0n : Nat} {q0m : Nat} {i : Int} {r : Nat} (h : z9l q04 q0a q05 q0c q06 q0b q0e q0h q0l q0n q0m i = some r) : zdu q04 q0a q05 q0c q06 q0b q0e q0h q0l q0n q0m i = true ∧ zal q04 q0a q05 q0c q06 q0b q0e q0h q0l q0n q0m i = r := by
  unfold zdu zal
  rw [h]
  exact ⟨rfl, rfl⟩
noncomputable def zgd {R : Type} (n_ : Int) (low : Int) (q1m : Int) (k_ : Bool → Option R) : Option R := (br (leI low n_) (k_ (leI n_ q1m)) (k_ Bool.false))
noncomputable def zgj (n_ : Int) (low : Int) (q1m : Int) : Option (Bool) := zgd n_ low q1m (fun c0_ => some c0_)
theorem ztn {R R' : Type} (o : Option R → Option R') (h0 : o none = none) (n_ : Int) (low : Int) (q1m : Int) (k_ : Bool → Option R) : zgd n_ low q1m (fun c0_ => o (k_ c0_)) = o (zgd n_ low q1m k_) := by
  unfold zgd
  repeat (first | refine grd_out h0 ?_ | refine br_out ?_ ?_ | rfl | exact h0.symm)
noncomputable def zk1 (n_ : Int) (low : Int) (q1m : Int) : Bool := (zgj n_ low q1m).isSome
noncomputable def zj4 (n_ : Int) (low : Int) (q1m : Int) : Bool := ((zgj n_ low q1m).getD default)
theorem zpu {n_ : Int} {low : Int} {q1m : Int} {r : Bool} (h : zgj n_ low q1m = some r) : zk1 n_ low q1m = true ∧ zj4 n_ low q1m = r := by
  unfold zk1 zj4
  rw [h]
  exact ⟨rfl, rfl⟩
noncomputable def zlc {R : Type}  (k_ : Nat → Option R) : Option R := (grd (okU FloatKind.f64 9221120237041090561) (k_ (cnI FloatKind.f64 9221120237041090561)))
noncomputable def zl7  : Option (Nat) := zlc (fun c0_ => some c0_)
theorem zvr {R R' : Type} (o : Option R → Option R') (h0 : o none = none)  (k_ : Nat → Option R) : zlc (fun c0_ => o (k_ c0_)) = o (zlc k_) := by
  unfold zlc
  repeat (first | refine grd_out h0 ?_ | refine br_out ?_ ?_ | rfl | exact h0.symm)
noncomputable def zm3  : Bool := (zl7).isSome
noncomputable def zk5  : Nat := ((zl7).getD default)
theorem zu7  {r : Nat} (h : zl7 = some r) : zm3 = true ∧ zk5 = r := by
  unfold zm3 zk5
  rw [h]
  exact ⟨rfl, rfl⟩
noncomputable def zcd {R : Type} (a_n : Nat) (a : List Nat) (q21 : Int) (k_ : Int → Option R) : Option R := (br (ltI (subI IntKind.i64 q21 (Int.ofNat a_n)) 0) (k_ (Int.negSucc 0)) (k_ (subI IntKind.i64 q21 (Int.ofNat a_n))))
noncomputable def zby (a_n : Nat) (a : List Nat) (q21 : Int) : Option (Int) := zcd a_n a q21 (fun c0_ => some c0_)
theorem zpc {R R' : Type} (o : Option R → Option R') (h0 : o none = none) (a_n : Nat) (a : List Nat) (q21 : Int) (k_ : Int → Option R) : zcd a_n a q21 (fun c0_ => o (k_ c0_)) = o (zcd a_n a q21 k_) := by
  unfold zcd
  repeat (first | refine grd_out h0 ?_ | refine br_out ?_ ?_ | rfl | exact h0.symm)
noncomputable def zid (a_n : Nat) (a : List Nat) (q21 : Int) : Bool := (zby a_n a q21).isSome
noncomputable def zdm (a_n : Nat) (a : List Nat) (q21 : Int) : Int := ((zby a_n a q21).getD default)
theorem zt4 {a_n : Nat} {a : List Nat} {q21 : Int} {r : Int} (h : zby a_n a q21 = some r) : zid a_n a q21 = true ∧ zdm a_n a q21 = r := by
  unfold zid zdm
  rw [h]
  exact ⟨rfl, rfl⟩
noncomputable def zfm {R : Type} (x : Nat) (k_ : Bool → Option R) : Option R := (k_ (fcmp BinOp.eql FloatKind.f32 (fop BinOp.sub FloatKind.f32 x x) 0))
noncomputable def zfj (x : Nat) : Option (Bool) := zfm x (fun c0_ => some c0_)
theorem zqj {R R' : Type} (o : Option R → Option R') (h0 : o none = none) (x : Nat) (k_ : Bool → Option R) : zfm x (fun c0_ => o (k_ c0_)) = o (zfm x k_) := by
  unfold zfm
  repeat (first | refine grd_out h0 ?_ | refine br_out ?_ ?_ | rfl | exact h0.symm)
noncomputable def z4r (x : Nat) : Bool := (zfj x).isSome
noncomputable def z4c (x : Nat) : Bool := ((zfj x).getD default)
theorem z7d {x : Nat} {r : Bool} (h : zfj x = some r) : z4r x = true ∧ z4c x = r := by
  unfold z4r z4c
  rw [h]
  exact ⟨rfl, rfl⟩
noncomputable def ze5 {R : Type} (x : Nat) (low : Nat) (q1m : Nat) (k_ : Bool → Option R) : Option R := (br (fcmp BinOp.geq FloatKind.f32 x low) (k_ (fcmp BinOp.leq FloatKind.f32 x q1m)) (k_ Bool.false))
noncomputable def zdv (x : Nat) (low : Nat) (q1m : Nat) : Option (Bool) := ze5 x low q1m (fun c0_ => some c0_)
theorem zs2 {R R' : Type} (o : Option R → Option R') (h0 : o none = none) (x : Nat) (low : Nat) (q1m : Nat) (k_ : Bool → Option R) : ze5 x low q1m (fun c0_ => o (k_ c0_)) = o (ze5 x low q1m k_) := by
  unfold ze5
  repeat (first | refine grd_out h0 ?_ | refine br_out ?_ ?_ | rfl | exact h0.symm)
noncomputable def zh9 (x : Nat) (low : Nat) (q1m : Nat) : Bool := (zdv x low q1m).isSome
noncomputable def zfg (x : Nat) (low : Nat) (q1m : Nat) : Bool := ((zdv x low q1m).getD default)
theorem znt {x : Nat} {low : Nat} {q1m : Nat} {r : Bool} (h : zdv x low q1m = some r) : zh9 x low q1m = true ∧ zfg x low q1m = r := by
  unfold zh9 zfg
  rw [h]
  exact ⟨rfl, rfl⟩
noncomputable def zkq {R : Type} (a : Nat) (b : Nat) (q2r : Nat) (k_ : Nat → Option R) : Option R := (k_ (fop BinOp.add FloatKind.f32 a (fop BinOp.mul FloatKind.f32 q2r (fop BinOp.sub FloatKind.f32 b a))))
noncomputable def zkp (a : Nat) (b : Nat) (q2r : Nat) : Option (Nat) := zkq a b q2r (fun c0_ => some c0_)
theorem zuz {R R' : Type} (o : Option R → Option R') (h0 : o none = none) (a : Nat) (b : Nat) (q2r : Nat) (k_ : Nat → Option R) : zkq a b q2r (fun c0_ => o (k_ c0_)) = o (zkq a b q2r k_) := by
  unfold zkq
  repeat (first | refine grd_out h0 ?_ | refine br_out ?_ ?_ | rfl | exact h0.symm)
noncomputable def zkv (a : Nat) (b : Nat) (q2r : Nat) : Bool := (zkp a b q2r).isSome
noncomputable def zk0 (a : Nat) (b : Nat) (q2r : Nat) : Nat := ((zkp a b q2r).getD default)
theorem zwi {a : Nat} {b : Nat} {q2r : Nat} {r : Nat} (h : zkp a b q2r = some r) : zkv a b q2r = true ∧ zk0 a b q2r = r := by
  unfold zkv zk0
  rw [h]
  exact ⟨rfl, rfl⟩
noncomputable def zl5 {R : Type} (x : Nat) (k_ : Nat → Option R) : Option R := (grd (bnot (nanQ FloatKind.f64 x)) (grd (okU FloatKind.f64 (bitI BinOp.andNot IntKind.u64 (Int.ofNat x) 9223372036854775808)) (k_ (cnI FloatKind.f64 (bitI BinOp.andNot IntKind.u64 (Int.ofNat x) 9223372036854775808)))))
noncomputable def zlf (x : Nat) : Option (Nat) := zl5 x (fun c0_ => some c0_)
theorem zw8 {R R' : Type} (o : Option R → Option R') (h0 : o none = none) (x : Nat) (k_ : Nat → Option R) : zl5 x (fun c0_ => o (k_ c0_)) = o (zl5 x k_) := by
  unfold zl5
  repeat (first | refine grd_out h0 ?_ | refine br_out ?_ ?_ | rfl | exact h0.symm)
noncomputable def znc (x : Nat) : Bool := (zlf x).isSome
noncomputable def zmk (x : Nat) : Nat := ((zlf x).getD default)
theorem zwx {x : Nat} {r : Nat} (h : zlf x = some r) : znc x = true ∧ zmk x = r := by
  unfold znc zmk
  rw [h]
  exact ⟨rfl, rfl⟩
noncomputable def zc5 {R : Type} (a_n : Nat) (a : List Nat) (q21 : Int) (k_ : Int → Option R) : Option R := (br (ltI (subI IntKind.i64 q21 (Int.ofNat a_n)) 0) (k_ (Int.negSucc 0)) (k_ (subI IntKind.i64 q21 (Int.ofNat a_n))))
noncomputable def zcc (a_n : Nat) (a : List Nat) (q21 : Int) : Option (Int) := zc5 a_n a q21 (fun c0_ => some c0_)
theorem zpi {R R' : Type} (o : Option R → Option R') (h0 : o none = none) (a_n : Nat) (a : List Nat) (q21 : Int) (k_ : Int → Option R) : zc5 a_n a q21 (fun c0_ => o (k_ c0_)) = o (zc5 a_n a q21 k_) := by
  unfold zc5
  repeat (first | refine grd_out h0 ?_ | refine br_out ?_ ?_ | rfl | exact h0.symm)
noncomputable def zcb (a_n : Nat) (a : List Nat) (q21 : Int) : Bool := (zcc a_n a q21).isSome
noncomputable def z4s (a_n : Nat) (a : List Nat) (q21 : Int) : Int := ((zcc a_n a q21).getD default)
theorem zkt {a_n : Nat} {a : List Nat} {q21 : Int} {r : Int} (h : zcc a_n a q21 = some r) : zcb a_n a q21 = true ∧ z4s a_n a q21 = r := by
  unfold zcb z4s
  rw [h]
  exact ⟨rfl, rfl⟩
noncomputable def zir {R : Type} (n_ : Int) (low : Int) (q1m : Int) (k_ : Bool → Option R) : Option R := (br (leI low n_) (k_ (leI n_ q1m)) (k_ Bool.false))
noncomputable def zip (n_ : Int) (low : Int) (q1m : Int) : Option (Bool) := zir n_ low q1m (fun c0_ => some c0_)
theorem zuw {R R' : Type} (o : Option R → Option R') (h0 : o none = none) (n_ : Int) (low : Int) (q1m : Int) (k_ : Bool → Option R) : zir n_ low q1m (fun c0_ => o (k_ c0_)) = o (zir n_ low q1m k_) := by
  unfold zir
  repeat (first | refine grd_out h0 ?_ | refine br_out ?_ ?_ | rfl | exact h0.symm)
noncomputable def zl1 (n_ : Int) (low : Int) (q1m : Int) : Bool := (zip n_ low q1m).isSome
noncomputable def zjw (n_ : Int) (low : Int) (q1m : Int) : Bool := ((zip n_ low q1m).getD default)
theorem zri {n_ : Int} {low : Int} {q1m : Int} {r : Bool} (h : zip n_ low q1m = some r) : zl1 n_ low q1m = true ∧ zjw n_ low q1m = r := by
  unfold zl1 zjw
  rw [h]
  exact ⟨rfl, rfl⟩
noncomputable def zfh {R : Type} (q27 : Nat) (q29 : Nat) (q28 : Nat) (k_ : Unit → Option R) : Option R := (k_ ())
noncomputable def znz (q27 : Nat) (q29 : Nat) (q28 : Nat) : Option (Unit) := zfh q27 q29 q28 (fun _ => some ())
theorem zqu {R R' : Type} (o : Option R → Option R') (h0 : o none = none) (q27 : Nat) (q29 : Nat) (q28 : Nat) (k_ : Unit → Option R) : zfh q27 q29 q28 (fun _ => o (k_ ())) = o (zfh q27 q29 q28 k_) := by
  unfold zfh
  repeat (first | refine grd_out h0 ?_ | refine br_out ?_ ?_ | rfl | exact h0.symm)
noncomputable def zlv (q27 : Nat) (q29 : Nat) (q28 : Nat) : Bool := (znz q27 q29 q28).isSome
noncomputable def zge {R : Type} (q04 : Nat) (q0a : List Nat) (q05 : Nat) (q0c : List Nat) (q06 : Nat) (q0b : List Nat) (q0e : Nat) (q0h : List Nat) (q0l : Int) (q0n : Nat) (q0m : Nat) (i : Int) (q2s : Nat) (k_ : Nat → Option R) : Option R := (grd (okIx i q0e) (k_ (fop BinOp.quo FloatKind.f32 (fop BinOp.quo FloatKind.f32 (fop BinOp.mul FloatKind.f32 (fOI FloatKind.f32 q0l) (fop BinOp.sub FloatKind.f32 q0m (gF q0h (ixO 0 i 3)))) (fop BinOp.mul FloatKind.f32 1073741824 (gF q0h (ixO 0 i 3)))) (fop BinOp.add FloatKind.f32 (fop BinOp.quo FloatKind.f32 (fop BinOp.mul FloatKind.f32 (fOI FloatKind.f32 q0l) (fop BinOp.sub FloatKind.f32 q0m (gF q0h (ixO 0 i 3)))) (fop BinOp.mul FloatKind.f32 1073741824 (gF q0h (ixO 0 i 3)))) q2s))))
noncomputable def zgg (q04 : Nat) (q0a : List Nat) (q05 : Nat) (q0c : List Nat) (q06 : Nat) (q0b : List Nat) (q0e : Nat) (q0h : List Nat) (q0l : Int) (q0n : Nat) (q0m : Nat) (i : Int) (q2s : Nat) : Option (Nat) := zge q04 q0a q05 q0c q06 q0b q0e q0h q0l q0n q0m i q2s (fun c0_ => some c0_)
theorem zu3 {R R' : Type} (o : Option R → Option R') (h0 : o none = none) (q04 : Nat) (q0a : List Nat) (q05 : Nat) (q0c : List Nat) (q06 : Nat) (q0b : List Nat) (q0e : Nat) (q0h : List Nat) (q0l : Int) (q0n : Nat) (q0m : Nat) (i : Int) (q2s : Nat) (k_ : Nat → Option R) : zge q04 q0a q05 q0c q06 q0b q0e q0h q0l q0n q0m i q2s (fun c0_ => o (k_ c0_)) = o (zge q04 q0a q05 q0c q06 q0b q0e q0h q0l q0n q0m i q2s k_) := by
  unfold zge
  repeat (first | refine grd_out h0 ?_ | refine br_out ?_ ?_ | rfl | exact h0.symm)
noncomputable def zlr (q04 : Nat) (q0a : List Nat) (q05 : Nat) (q0c : List Nat) (q06 : Nat) (q0b : List Nat) (q0e : Nat) (q0h : List Nat) (q0l : Int) (q0n : Nat) (q0m : Nat) (i : Int) (q2s : Nat) : Bool := (zgg q04 q0a q05 q0c q06 q0b q0e q0h q0l q0n q0m i q2s).isSome
noncomputable def zin (q04 : Nat) (q0a : List Nat) (q05 : Nat) (q0c : List Nat) (q06 : Nat) (q0b : List Nat) (q0e : Nat) (q0h : List Nat) (q0l : Int) (q0n : Nat) (q0m : Nat) (i : Int) (q2s : Nat) : Nat := ((zgg q04 q0a q05 q0c q06 q0b q0e q0h q0l q0n q0m i q2s).getD default)
theorem zwa {q04 : Nat} {q0a : List Nat} {q05 : Nat} {q0c : List Nat} {q06 : Nat} {q0b : List Nat} {q0e : Nat} {q0h : List Nat} {q0l : Int} {q0n : Nat} {q0m : Nat} {i : Int} {q2s : Nat} {r : Nat} (h : zgg q04 q0a q05 q0c q06 q0b q0e q0h q0l q0n q0m i q2s = some r) : zlr q04 q0a q05 q0c q06 q0b q0e q0h q0l q0n q0m i q2s = true ∧ zin q04 q0a q05 q0c q06 q0b q0e q0h q0l q0n q0m i q2s = r := by
  unfold zlr zin
  rw [h]
  exact ⟨rfl, rfl⟩
noncomputable def zb5 {R : Type} (q04 : Nat) (q0a : List Nat) (q05 : Nat) (q0c : List Nat) (q06 : Nat) (q0b : List Nat) (q0e : Nat) (q0h : List Nat) (q0l : Int) (q0n : Nat) (q0m : Nat) (i : Int) (k_ : Nat → Option R) : Option R := (grd (okIx i q0e) (k_ (fop BinOp.quo FloatKind.f32 (fop BinOp.mul FloatKind.f32 (fOI FloatKind.f32 q0l) (gF q0h (Nat.succ (ixO 0 i 3)))) (fop BinOp.mul FloatKind.f32 1086918619 (gF q0h (ixO 0 i 3))))))
noncomputable def zba (q04 : Nat) (q0a : List Nat) (q05 : Nat) (q0c : List Nat) (q06 : Nat) (q0b : List Nat) (q0e : Nat) (q0h : List Nat) (q0l : Int) (q0n : Nat) (q0m : Nat) (i : Int) : Option (Nat) := zb5 q04 q0a q05 q0c q06 q0b q0e q0h q0l q0n q0m i (fun c0_ => some c0_)
theorem zov {R R' : Type} (o : Option R → Option R') (h0 : o none = none) (q04 : Nat) (q0a : List Nat) (q05 : Nat) (q0c : List Nat) (q06 : Nat) (q0b : List Nat) (q0e : Nat) (q0h : List Nat) (q0l : Int) (q0n : Nat) (q0m : Nat) (i : Int) (k_ : Nat → Option R) : zb5 q04 q0a q05 q0c q06 q0b q0e q0h q0l q0n q0m i (fun c0_ => o (k_ c0_)) = o (zb5 q04 q0a q05 q0c q06 q0b q0e q0h q0l q0n q0m i k_) := by
  unfold zb5
  repeat (first | refine grd_out h0 ?_ | refine br_out ?_ ?_ | rfl | exact h0.symm)
noncomputable def zgx (q04 : Nat) (q0a : List Nat) (q05 : Nat) (q0c : List Nat) (q06 : Nat) (q0b : List Nat) (q0e : Nat) (q0h : List Nat) (q0l : Int) (q0n : Nat) (q0m : Nat) (i : Int) : Bool := (zba q04 q0a q05 q0c q06 q0b q0e q0h q0l q0n q0m i).isSome
noncomputable def zco (q04 : Nat) (q0a : List Nat) (q05 : Nat) (q0c : List Nat) (q06 : Nat) (q0b : List Nat) (q0e : Nat) (q0h : List Nat) (q0l : Int) (q0n : Nat) (q0m : Nat) (i : Int) : Nat := ((zba q04 q0a q05 q0c q06 q0b q0e q0h q0l q0n q0m i).getD default)
theorem zrt {q04 : Nat} {q0a : List Nat} {q05 : Nat} {q0c : List Nat} {q06 : Nat} {q0b : List Nat} {q0e : Nat} {q0h : List Nat} {q0l : Int} {q0n : Nat} {q0m : Nat} {i : Int} {r : Nat} (h : zba q04 q0a q05 q0c q06 q0b q0e q0h q0l q0n q0m i = some r) : zgx q04 q0a q05 q0c q06 q0b q0e q0h q0l q0n q0m i = true ∧ zco q04 q0a q05 q0c q06 q0b q0e q0h q0l q0n q0m i = r := by
  unfold zgx zco
  rw [h]
  exact ⟨rfl, rfl⟩
noncomputable def zcr {R : Type} (x : Nat) (k_ : Nat → Option R) : Option R := (grd (fcvB FloatKind.f64 FloatKind.f32 x) (k_ (fcvV FloatKind.f64 FloatKind.f32 x)))
noncomputable def zd5 (x : Nat) : Option (Nat) := zcr x (fun c0_ => some c0_)
theorem zqn {R R' : Type} (o : Option R → Option R') (h0 : o none = none) (x : Nat) (k_ : Nat → Option R) : zcr x (fun c0_ => o (k_ c0_)) = o (zcr x k_) := by
  unfold zcr
  repeat (first | refine grd_out h0 ?_ | refine br_out ?_ ?_ | rfl | exact h0.symm)
noncomputable def zff (x : Nat) : Bool := (zd5 x).isSome
noncomputable def zbs (x : Nat) : Nat := ((zd5 x).getD default)
theorem zn1 {x : Nat} {r : Nat} (h : zd5 x = some r) : zff x = true ∧ zbs x = r := by
  unfold zff zbs
  rw [h]
  exact ⟨rfl, rfl⟩
noncomputable def zf4 {R : Type} (x : Nat) (k_ : Nat → Bool → Option R) : Option R := (grd (z77 x) (br (bnot (z6q x)) (k_ 0 Bool.false) (k_ x Bool.true)))
noncomputable def zd4 (x : Nat) : Option (Nat × Bool) := zf4 x (fun c0_ c1_ => some (c0_, c1_))
theorem zt2 {R R' : Type} (o : Option R → Option R') (h0 : o none = none) (x : Nat) (k_ : Nat → Bool → Option R) : zf4 x (fun c0_ c1_ => o (k_ c0_ c1_)) = o (zf4 x k_) := by
  unfold zf4
  repeat (first | refine grd_out h0 ?_ | refine br_out ?_ ?_ | rfl | exact h0.symm)
noncomputable def zlb (x : Nat) : Bool := (zd4 x).isSome
noncomputable def zkf (x : Nat) : Nat := ((zd4 x).getD default).1
noncomputable def zkg (x : Nat) : Bool := ((zd4 x).getD default).2
theorem zvd {x : Nat} {r : Nat × Bool} (h : zd4 x = some r) : zlb x = true ∧ zkf x = r.1 ∧ zkg x = r.2 := by
  unfold zlb zkf zkg
  rw [h]
  exact ⟨rfl, rfl, rfl⟩
noncomputable def z93 {R : Type} (q04 : Nat) (q0a : List Nat) (q05 : Nat) (q0c : List Nat) (q06 : Nat) (q0b : List Nat) (q0e : Nat) (q0h : List Nat) (q0l : Int) (q0n : Nat) (q0m : Nat) (i : Int) (k_ : Bool → Option R) : Option R := (grd (zk1 i 0 (subI IntKind.i64 (Int.ofNat q0e) 1)) (k_ (zj4 i 0 (subI IntKind.i64 (Int.ofNat q0e) 1))))
noncomputable def z94 (q04 : Nat) (q0a : List Nat) (q05 : Nat) (q0c : List Nat) (q06 : Nat) (q0b : List Nat) (q0e : Nat) (q0h : List Nat) (q0l : Int) (q0n : Nat) (q0m : Nat) (i : Int) : Option (Bool) := z93 q04 q0a q05 q0c q06 q0b q0e q0h q0l q0n q0m i (fun c0_ => some c0_)
theorem zmt {R R' : Type} (o : Option R → Option R') (h0 : o none = none) (q04 : Nat) (q0a : List Nat) (q05 : Nat) (q0c : List Nat) (q06 : Nat) (q0b : List Nat) (q0e : Nat) (q0h : List Nat) (q0l : Int) (q0n : Nat) (q0m : Nat) (i : Int) (k_ : Bool → Option R) : z93 q04 q0a q05 q0c q06 q0b q0e q0h q0l q0n q0m i (fun c0_ => o (k_ c0_)) = o (z93 q04 q0a q05 q0c q06 q0b q0e q0h q0l q0n q0m i k_) := by
  unfold z93
  repeat (first | refine grd_out h0 ?_ | refine br_out ?_ ?_ | rfl | exact h0.symm)
noncomputable def zdh (q04 : Nat) (q0a : List Nat) (q05 : Nat) (q0c : List Nat) (q06 : Nat) (q0b : List Nat) (q0e : Nat) (q0h : List Nat) (q0l : Int) (q0n : Nat) (q0m : Nat) (i : Int) : Bool := (z94 q04 q0a q05 q0c q06 q0b q0e q0h q0l q0n q0m i).isSome
noncomputable def zcj (q04 : Nat) (q0a : List Nat) (q05 : Nat) (q0c : List Nat) (q06 : Nat) (q0b : List Nat) (q0e : Nat) (q0h : List Nat) (q0l : Int) (q0n : Nat) (q0m : Nat) (i : Int) : Bool := ((z94 q04 q0a q05 q0c q06 q0b q0e q0h q0l q0n q0m i).getD default)
theorem zo9 {q04 : Nat} {q0a : List Nat} {q05 : Nat} {q0c : List Nat} {q06 : Nat} {q0b : List Nat} {q0e : Nat} {q0h : List Nat} {q0l : Int} {q0n : Nat} {q0m : Nat} {i : Int} {r : Bool} (h : z94 q04 q0a q05 q0c q06 q0b q0e q0h q0l q0n q0m i = some r) : zdh q04 q0a q05 q0c q06 q0b q0e q0h q0l q0n q0m i = true ∧ zcj q04 q0a q05 q0c q06 q0b q0e q0h q0l q0n q0m i = r := by
  unfold zdh zcj
  rw [h]
  exact ⟨rfl, rfl⟩
noncomputable def zgm {R : Type} (q15 : Nat) (k_ : Bool → Option R) : Option R := (grd (zh9 q15 981668463 1048508891) (k_ (zfg q15 981668463 1048508891)))
noncomputable def zgf (q15 : Nat) : Option (Bool) := zgm q15 (fun c0_ => some c0_)
theorem ztu {R R' : Type} (o : Option R → Option R') (h0 : o none = none) (q15 : Nat) (k_ : Bool → Option R) : zgm q15 (fun c0_ => o (k_ c0_)) = o (zgm q15 k_) := by
  unfold zgm
  repeat (first | refine grd_out h0 ?_ | refine br_out ?_ ?_ | rfl | exact h0.symm)
noncomputable def zlu (q15 : Nat) : Bool := (zgf q15).isSome
noncomputable def zl6 (q15 : Nat) : Bool := ((zgf q15).getD default)
theorem zvx {q15 : Nat} {r : Bool} (h : zgf q15 = some r) : zlu q15 = true ∧ zl6 q15 = r := by
  unfold zlu zl6
  rw [h]
  exact ⟨rfl, rfl⟩
noncomputable def zez {R : Type} (x : Nat) (k_ : Bool → Option R) : Option R := (grd (z77 x) (br (z6q x) (k_ (fcmp BinOp.geq FloatKind.f32 x 0)) (k_ Bool.false)))
noncomputable def zf8 (x : Nat) : Option (Bool) := zez x (fun c0_ => some c0_)
theorem zsj {R R' : Type} (o : Option R → Option R') (h0 : o none = none) (x : Nat) (k_ : Bool → Option R) : zez x (fun c0_ => o (k_ c0_)) = o (zez x k_) := by
  unfold zez
  repeat (first | refine grd_out h0 ?_ | refine br_out ?_ ?_ | rfl | exact h0.symm)
noncomputable def ziv (x : Nat) : Bool := (zf8 x).isSome
noncomputable def zh2 (x : Nat) : Bool := ((zf8 x).getD default)
theorem zol {x : Nat} {r : Bool} (h : zf8 x = some r) : ziv x = true ∧ zh2 x = r := by
  unfold ziv zh2
  rw [h]
  exact ⟨rfl, rfl⟩
noncomputable def zgi {R : Type} (x : Nat) (k_ : Bool → Option R) : Option R := (grd (znc x) (k_ (fcmp BinOp.geq FloatKind.f64 (zmk x) 4841369599423283200)))
noncomputable def zgb (x : Nat) : Option (Bool) := zgi x (fun c0_ => some c0_)
theorem zu5 {R R' : Type} (o : Option R → Option R') (h0 : o none = none) (x : Nat) (k_ : Bool → Option R) : zgi x (fun c0_ => o (k_ c0_)) = o (zgi x k_) := by
  unfold zgi
  repeat (first | refine grd_out h0 ?_ | refine br_out ?_ ?_ | rfl | exact h0.symm)
noncomputable def zlq (x : Nat) : Bool := (zgb x).isSome
noncomputable def zld (x : Nat) : Bool := ((zgb x).getD default)
theorem zvv {x : Nat} {r : Bool} (h : zgb x = some r) : zlq x = true ∧ zld x = r := by
  unfold zlq zld
  rw [h]
  exact ⟨rfl, rfl⟩
noncomputable def zcz {R : Type} (q17 : Nat) (q1l : List Nat) (q1c : Nat) (q1o : List Nat) (q1d : Nat) (q1p : List Nat) (q21 : Int) (k_ : Int → Option R) : Option R := (grd (zcb q17 (pF q1l 0 (muN q17 1)) q21) (br (ltI (z4s q17 (pF q1l 0 (muN q17 1)) q21) 0) (k_ (Int.negSucc 0)) (grd (zcb q1c (pF q1o 0 (muN q1c 1)) (z4s q17 (pF q1l 0 (muN q17 1)) q21)) (br (ltI (z4s q1c (pF q1o 0 (muN q1c 1)) (z4s q17 (pF q1l 0 (muN q17 1)) q21)) 0) (k_ (Int.negSucc 0)) (grd (zcb q1d (pF q1p 0 (muN q1d 1)) (z4s q1c (pF q1o 0 (muN q1c 1)) (z4s q17 (pF q1l 0 (muN q17 1)) q21))) (br (ltI (z4s q1d (pF q1p 0 (muN q1d 1)) (z4s q1c (pF q1o 0 (muN q1c 1)) (z4s q17 (pF q1l 0 (muN q17 1)) q21))) 0) (k_ (Int.negSucc 0)) (k_ (z4s q1d (pF q1p 0 (muN q1d 1)) (z4s q1c (pF q1o 0 (muN q1c 1)) (z4s q17 (pF q1l 0 (muN q17 1)) q21))))))))))
noncomputable def zd8 (q17 : Nat) (q1l : List Nat) (q1c : Nat) (q1o : List Nat) (q1d : Nat) (q1p : List Nat) (q21 : Int) : Option (Int) := zcz q17 q1l q1c q1o q1d q1p q21 (fun c0_ => some c0_)
theorem zqe {R R' : Type} (o : Option R → Option R') (h0 : o none = none) (q17 : Nat) (q1l : List Nat) (q1c : Nat) (q1o : List Nat) (q1d : Nat) (q1p : List Nat) (q21 : Int) (k_ : Int → Option R) : zcz q17 q1l q1c q1o q1d q1p q21 (fun c0_ => o (k_ c0_)) = o (zcz q17 q1l q1c q1o q1d q1p q21 k_) := by
  unfold zcz
  repeat (first | refine grd_out h0 ?_ | refine br_out ?_ ?_ | rfl | exact h0.symm)
noncomputable def zjn (q17 : Nat) (q1l : List Nat) (q1c : Nat) (q1o : List Nat) (q1d : Nat) (q1p : List Nat) (q21 : Int) : Bool := (zd8 q17 q1l q1c q1o q1d q1p q21).isSome
noncomputable def za7 (q17 : Nat) (q1l : List Nat) (q1c : Nat) (q1o : List Nat) (q1d : Nat) (q1p : List Nat) (q21 : Int) : Int := ((zd8 q17 q1l q1c q1o q1d q1p q21).getD default)
theorem zta {q17 : Nat} {q1l : List Nat} {q1c : Nat} {q1o : List Nat} {q1d : Nat} {q1p : List Nat} {q21 : Int} {r : Int} (h : zd8 q17 q1l q1c q1o q1d q1p q21 = some r) : zjn q17 q1l q1c q1o q1d q1p q21 = true ∧ za7 q17 q1l q1c q1o q1d q1p q21 = r := by
  unfold zjn za7
  rw [h]
  exact ⟨rfl, rfl⟩
noncomputable def zdz {R : Type} (q04 : Nat) (q0a : List Nat) (q05 : Nat) (q0c : List Nat) (q06 : Nat) (q0b : List Nat) (q0e : Nat) (q0h : List Nat) (q0l : Int) (q0n : Nat) (q0m : Nat) (i : Int) (q0o : Nat) (k_ : Bool → Option R) : Option R := (grd (okIx i q0e) (grd (z4r (fop BinOp.sub FloatKind.f32 (fop BinOp.sub FloatKind.f32 981668463 (gF q0h (Nat.succ (Nat.succ (ixO 0 i 3))))) q0o)) (br (z4c (fop BinOp.sub FloatKind.f32 (fop BinOp.sub FloatKind.f32 981668463 (gF q0h (Nat.succ (Nat.succ (ixO 0 i 3))))) q0o)) (grd (okIx i q0e) (grd (z4r (fop BinOp.sub FloatKind.f32 (fop BinOp.sub FloatKind.f32 1048508891 (gF q0h (Nat.succ (Nat.succ (ixO 0 i 3))))) q0o)) (k_ (z4c (fop BinOp.sub FloatKind.f32 (fop BinOp.sub FloatKind.f32 1048508891 (gF q0h (Nat.succ (Nat.succ (ixO 0 i 3))))) q0o))))) (k_ Bool.false))))
noncomputable def ze4 (q04 : Nat) (q0a : List Nat) (q05 : Nat) (q0c : List Nat) (q06 : Nat) (q0b : List Nat) (q0e : Nat) (q0h : List Nat) (q0l : Int) (q0n : Nat) (q0m : Nat) (i : Int) (q0o : Nat) : Option (Bool) := zdz q04 q0a q05 q0c q06 q0b q0e q0h q0l q0n q0m i q0o (fun c0_ => some c0_)
theorem zrx {R R' : Type} (o : Option R → Option R') (h0 : o none = none) (q04 : Nat) (q0a : List Nat) (q05 : Nat) (q0c : List Nat) (q06 : Nat) (q0b : List Nat) (q0e : Nat) (q0h : List Nat) (q0l : Int) (q0n : Nat) (q0m : Nat) (i : Int) (q0o : Nat) (k_ : Bool → Option R) : zdz q04 q0a q05 q0c q06 q0b q0e q0h q0l q0n q0m i q0o (fun c0_ => o (k_ c0_)) = o (zdz q04 q0a q05 q0c q06 q0b q0e q0h q0l q0n q0m i q0o k_) := by
  unfold zdz
  repeat (first | refine grd_out h0 ?_ | refine br_out ?_ ?_ | rfl | exact h0.symm)
noncomputable def zkk (q04 : Nat) (q0a : List Nat) (q05 : Nat) (q0c : List Nat) (q06 : Nat) (q0b : List Nat) (q0e : Nat) (q0h : List Nat) (q0l : Int) (q0n : Nat) (q0m : Nat) (i : Int) (q0o : Nat) : Bool := (ze4 q04 q0a q05 q0c q06 q0b q0e q0h q0l q0n q0m i q0o).isSome
noncomputable def zjv (q04 : Nat) (q0a : List Nat) (q05 : Nat) (q0c : List Nat) (q06 : Nat) (q0b : List Nat) (q0e : Nat) (q0h : List Nat) (q0l : Int) (q0n : Nat) (q0m : Nat) (i : Int) (q0o : Nat) : Bool := ((ze4 q04 q0a q05 q0c q06 q0b q0e q0h q0l q0n q0m i q0o).getD default)
theorem zui {q04 : Nat} {q0a : List Nat} {q05 : Nat} {q0c : List Nat} {q06 : Nat} {q0b : List Nat} {q0e : Nat} {q0h : List Nat} {q0l : Int} {q0n : Nat} {q0m : Nat} {i : Int} {q0o : Nat} {r : Bool} (h : ze4 q04 q0a q05 q0c q06 q0b q0e q0h q0l q0n q0m i q0o = some r) : zkk q04 q0a q05 q0c q06 q0b q0e q0h q0l q0n q0m i q0o = true ∧ zjv q04 q0a q05 q0c q06 q0b q0e q0h q0l q0n q0m i q0o = r := by
  unfold zkk zjv
  rw [h]
  exact ⟨rfl, rfl⟩
noncomputable def zgh {R : Type} (x : Nat) (y : Nat) (k_ : Nat → Nat → Bool → Option R) : Option R := (grd (z4r x) (br (bnot (z4c x)) (k_ 0 0 Bool.false) (grd (z4r y) (br (bnot (z4c y)) (k_ 0 0 Bool.false) (k_ x y Bool.true)))))
noncomputable def zch (x : Nat) (y : Nat) : Option (Nat × Nat × Bool) := zgh x y (fun c0_ c1_ c2_ => some (c0_, c1_, c2_))
theorem ztx {R R' : Type} (o : Option R → Option R') (h0 : o none = none) (x : Nat) (y : Nat) (k_ : Nat → Nat → Bool → Option R) : zgh x y (fun c0_ c1_ c2_ => o (k_ c0_ c1_ c2_)) = o (zgh x y k_) := by
  unfold zgh
  repeat (first | refine grd_out h0 ?_ | refine br_out ?_ ?_ | rfl | exact h0.symm)
noncomputable def zjz (x : Nat) (y : Nat) : Bool := (zch x y).isSome
noncomputable def zfc (x : Nat) (y : Nat) : Nat := ((zch x y).getD default).1
noncomputable def zf3 (x : Nat) (y : Nat) : Nat := ((zch x y).getD default).2.1
noncomputable def zf9 (x : Nat) (y : Nat) : Bool := ((zch x y).getD default).2.2
theorem zw3 {x : Nat} {y : Nat} {r : Nat × Nat × Bool} (h : zch x y = some r) : zjz x y = true ∧ zfc x y = r.1 ∧ zf3 x y = r.2.1 ∧ zf9 x y = r.2.2 := by
  unfold zjz zfc zf3 zf9
  rw [h]
  exact ⟨rfl, rfl, rfl, rfl⟩
noncomputable def zdr {R : Type} (x : Nat) (k_ : Bool → Option R) : Option R := (grd (z4r x) (br (z4c x) (k_ (fcmp BinOp.gtr FloatKind.f32 x 0)) (k_ Bool.false)))
noncomputable def zdy (x : Nat) : Option (Bool) := zdr x (fun c0_ => some c0_)
theorem zrv {R R' : Type} (o : Option R → Option R') (h0 : o none = none) (x : Nat) (k_ : Bool → Option R) : zdr x (fun c0_ => o (k_ c0_)) = o (zdr x k_) := by
  unfold zdr
  repeat (first | refine grd_out h0 ?_ | refine br_out ?_ ?_ | rfl | exact h0.symm)
noncomputable def zbm (x : Nat) : Bool := (zdy x).isSome
noncomputable def zar (x : Nat) : Bool := ((zdy x).getD default)
theorem zjr {x : Nat} {r : Bool} (h : zdy x = some r) : zbm x = true ∧ zar x = r := by
  unfold zbm zar
  rw [h]
  exact ⟨rfl, rfl⟩
noncomputable def zb2 {R : Type} (x : Nat) (k_ : Bool → Option R) : Option R := (grd (z77 x) (k_ (bnot (z6q x))))
noncomputable def zb3 (x : Nat) : Option (Bool) := zb2 x (fun c0_ => some c0_)
theorem zp9 {R R' : Type} (o : Option R → Option R') (h0 : o none = none) (x : Nat) (k_ : Bool → Option R) : zb2 x (fun c0_ => o (k_ c0_)) = o (zb2 x k_) := by
  unfold zb2
  repeat (first | refine grd_out h0 ?_ | refine br_out ?_ ?_ | rfl | exact h0.symm)
noncomputable def zgw (x : Nat) : Bool := (zb3 x).isSome
noncomputable def zfo (x : Nat) : Bool := ((zb3 x).getD default)
theorem zs1 {x : Nat} {r : Bool} (h : zb3 x = some r) : zgw x = true ∧ zfo x = r := by
  unfold zgw zfo
  rw [h]
  exact ⟨rfl, rfl⟩
noncomputable def z9v {R : Type} (x : Nat) (k_ : Bool → Option R) : Option R := (grd (z77 x) (br (bnot (z6q x)) (k_ Bool.true) (k_ (fcmp BinOp.leq FloatKind.f32 x 0))))
noncomputable def z9z (x : Nat) : Option (Bool) := z9v x (fun c0_ => some c0_)
theorem znh {R R' : Type} (o : Option R → Option R') (h0 : o none = none) (x : Nat) (k_ : Bool → Option R) : z9v x (fun c0_ => o (k_ c0_)) = o (z9v x k_) := by
  unfold z9v
  repeat (first | refine grd_out h0 ?_ | refine br_out ?_ ?_ | rfl | exact h0.symm)
noncomputable def zef (x : Nat) : Bool := (z9z x).isSome
noncomputable def ze6 (x : Nat) : Bool := ((z9z x).getD default)
theorem zqb {x : Nat} {r : Bool} (h : z9z x = some r) : zef x = true ∧ ze6 x = r := by
  unfold zef ze6
  rw [h]
  exact ⟨rfl, rfl⟩
noncomputable def zd0 {R : Type} (q27 : Nat) (q29 : Nat) (q28 : Nat) (q2j : Nat) (q2m : Nat) (q2l : Nat) (k_ : Bool → Option R) : Option R := (grd (z7u (fcvV FloatKind.f32 FloatKind.f64 q27) (fcvV FloatKind.f32 FloatKind.f64 q2j)) (br (bnot (z7e (fcvV FloatKind.f32 FloatKind.f64 q27) (fcvV FloatKind.f32 FloatKind.f64 q2j))) (k_ Bool.false) (grd (z7u (fcvV FloatKind.f32 FloatKind.f64 q29) (fcvV FloatKind.f32 FloatKind.f64 q2m)) (br (bnot (z7e (fcvV FloatKind.f32 FloatKind.f64 q29) (fcvV FloatKind.f32 FloatKind.f64 q2m))) (k_ Bool.false) (grd (z7u (fcvV FloatKind.f32 FloatKind.f64 q28) (fcvV FloatKind.f32 FloatKind.f64 q2l)) (br (bnot (z7e (fcvV FloatKind.f32 FloatKind.f64 q28) (fcvV FloatKind.f32 FloatKind.f64 q2l))) (k_ Bool.false) (k_ Bool.true)))))))
noncomputable def zcy (q27 : Nat) (q29 : Nat) (q28 : Nat) (q2j : Nat) (q2m : Nat) (q2l : Nat) : Option (Bool) := zd0 q27 q29 q28 q2j q2m q2l (fun c0_ => some c0_)
theorem zqz {R R' : Type} (o : Option R → Option R') (h0 : o none = none) (q27 : Nat) (q29 : Nat) (q28 : Nat) (q2j : Nat) (q2m : Nat) (q2l : Nat) (k_ : Bool → Option R) : zd0 q27 q29 q28 q2j q2m q2l (fun c0_ => o (k_ c0_)) = o (zd0 q27 q29 q28 q2j q2m q2l k_) := by
  unfold zd0
  repeat (first | refine grd_out h0 ?_ | refine br_out ?_ ?_ | rfl | exact h0.symm)
noncomputable def zji (q27 : Nat) (q29 : Nat) (q28 : Nat) (q2j : Nat) (q2m : Nat) (q2l : Nat) : Bool := (zcy q27 q29 q28 q2j q2m q2l).isSome
noncomputable def zie (q27 : Nat) (q29 : Nat) (q28 : Nat) (q2j : Nat) (q2m : Nat) (q2l : Nat) : Bool := ((zcy q27 q29 q28 q2j q2m q2l).getD default)
theorem zu0 {q27 : Nat} {q29 : Nat} {q28 : Nat} {q2j : Nat} {q2m : Nat} {q2l : Nat} {r : Bool} (h : zcy q27 q29 q28 q2j q2m q2l = some r) : zji q27 q29 q28 q2j q2m q2l = true ∧ zie q27 q29 q28 q2j q2m q2l = r := by
  unfold zji zie
  rw [h]
  exact ⟨rfl, rfl⟩
noncomputable def zdx {R : Type} (x : Nat) (k_ : Bool → Option R) : Option R := (grd (z4r x) (br (z4c x) (k_ (fcmp BinOp.geq FloatKind.f32 x 0)) (k_ Bool.false)))
noncomputable def ze3 (x : Nat) : Option (Bool) := zdx x (fun c0_ => some c0_)
theorem zrz {R R' : Type} (o : Option R → Option R') (h0 : o none = none) (x : Nat) (k_ : Bool → Option R) : zdx x (fun c0_ => o (k_ c0_)) = o (zdx x k_) := by
  unfold zdx
  repeat (first | refine grd_out h0 ?_ | refine br_out ?_ ?_ | rfl | exact h0.symm)
noncomputable def zac (x : Nat) : Bool := (ze3 x).isSome
noncomputable def z9o (x : Nat) : Bool := ((ze3 x).getD default)
theorem znk {x : Nat} {r : Bool} (h : ze3 x = some r) : zac x = true ∧ z9o x = r := by
  unfold zac z9o
  rw [h]
  exact ⟨rfl, rfl⟩
noncomputable def z7k {R : Type} (an : Nat) (q26 : Nat) (b0 : List Nat) (i : Int) (b1 : List Nat) (kn_ : Int → (List Nat) → Option R) (k0_ : Int → Bool → (List Nat) → Option R) : Option R := (br (ltI i (Int.ofNat an)) (grd (okIx i an) (grd (okIx i q26) (kn_ (addI IntKind.i64 i 1) (sF b1 (ixO 0 i 1) (gF b0 (ixO 0 i 1)))))) (k0_ i (ltI i (Int.ofNat an)) b1))
theorem znx {R R' : Type} (o : Option R → Option R') (h0 : o none = none) (an : Nat) (q26 : Nat) (b0 : List Nat) (i : Int) (b1 : List Nat) (kn_ : Int → (List Nat) → Option R) (k0_ : Int → Bool → (List Nat) → Option R) : z7k an q26 b0 i b1 (fun i' b1' => o (kn_ i' b1')) (fun c0_ c1_ c2_ => o (k0_ c0_ c1_ c2_)) = o (z7k an q26 b0 i b1 kn_ k0_) := by
  unfold z7k
  repeat (first | refine grd_out h0 ?_ | refine br_out ?_ ?_ | rfl | exact h0.symm)
noncomputable def z5z (an : Nat) (q26 : Nat) (b0 : List Nat) : Nat → Int → (List Nat) → Option ((Int × Bool × (List Nat)))
  | 0, _, _ => none
  | n + 1, i, b1 => z7k an q26 b0  i b1  (fun i' b1' => z5z an q26 b0 n i' b1') (fun c0_ c1_ c2_ => some (c0_, c1_, c2_))
theorem zkm (an : Nat) (q26 : Nat) (b0 : List Nat) (n : Nat) (i : Int) (b1 : List Nat) : z5z an q26 b0 (n + 1) i b1 = z7k an q26 b0  i b1  (fun i' b1' => z5z an q26 b0 n i' b1') (fun c0_ c1_ c2_ => some (c0_, c1_, c2_)) := rfl
noncomputable def zbo (an : Nat) (q26 : Nat) (b0 : List Nat) (i : Int) (b1 : List Nat) : Bool := (z5z an q26 b0 big i b1).isSome
noncomputable def zfz (an : Nat) (q26 : Nat) (b0 : List Nat) (i : Int) (b1 : List Nat) : Int := ((z5z an q26 b0 big i b1).getD default).1
noncomputable def zg8 (an : Nat) (q26 : Nat) (b0 : List Nat) (i : Int) (b1 : List Nat) : Bool := ((z5z an q26 b0 big i b1).getD default).2.1
noncomputable def za5 (an : Nat) (q26 : Nat) (b0 : List Nat) (i : Int) (b1 : List Nat) : List Nat := ((z5z an q26 b0 big i b1).getD default).2.2
theorem zoq {an : Nat} {q26 : Nat} {b0 : List Nat} {i : Int} {b1 : List Nat} {m : Nat} {r : Int × Bool × (List Nat)} (hm : m = big) (h : z5z an q26 b0 m i b1 = some r) : zbo an q26 b0 i b1 = true ∧ zfz an q26 b0 i b1 = r.1 ∧ zg8 an q26 b0 i b1 = r.2.1 ∧ za5 an q26 b0 i b1 = r.2.2 := by
  subst hm
  unfold zbo zfz zg8 za5
  rw [h]
  exact ⟨rfl, rfl, rfl, rfl⟩
noncomputable def zf7 {R : Type} (q0p : Nat) (q0v : List Nat) (q0r : Nat) (q0x : List Nat) (q0q : Nat) (q0w : List Nat) (q14 : Nat) (q19 : List Nat) (q1n : Int) (q1x : Nat) (q1w : Nat) (q21 : Int) (k_ : Int → Option R) : Option R := (grd (zjn q0p (pF q0v 0 (muN q0p 1)) q0r (pF q0x 0 (muN q0r 1)) q0q (pF q0w 0 (muN q0q 1)) q21) (br (ltI (za7 q0p (pF q0v 0 (muN q0p 1)) q0r (pF q0x 0 (muN q0r 1)) q0q (pF q0w 0 (muN q0q 1)) q21) 0) (k_ (Int.negSucc 0)) (grd (zid q14 (pF q19 0 (muN q14 3)) (za7 q0p (pF q0v 0 (muN q0p 1)) q0r (pF q0x 0 (muN q0r 1)) q0q (pF q0w 0 (muN q0q 1)) q21)) (br (ltI (zdm q14 (pF q19 0 (muN q14 3)) (za7 q0p (pF q0v 0 (muN q0p 1)) q0r (pF q0x 0 (muN q0r 1)) q0q (pF q0w 0 (muN q0q 1)) q21)) 0) (k_ (Int.negSucc 0)) (k_ (zdm q14 (pF q19 0 (muN q14 3)) (za7 q0p (pF q0v 0 (muN q0p 1)) q0r (pF q0x 0 (muN q0r 1)) q0q (pF q0w 0 (muN q0q 1)) q21)))))))
noncomputable def zeu (q0p : Nat) (q0v : List Nat) (q0r : Nat) (q0x : List Nat) (q0q : Nat) (q0w : List Nat) (q14 : Nat) (q19 : List Nat) (q1n : Int) (q1x : Nat) (q1w : Nat) (q21 : Int) : Option (Int) := zf7 q0p q0v q0r q0x q0q q0w q14 q19 q1n q1x q1w q21 (fun c0_ => some c0_)
theorem zs7 {R R' : Type} (o : Option R → Option R') (h0 : o none = none) (q0p : Nat) (q0v : List Nat) (q0r : Nat) (q0x : List Nat) (q0q : Nat) (q0w : List Nat) (q14 : Nat) (q19 : List Nat) (q1n : Int) (q1x : Nat) (q1w : Nat) (q21 : Int) (k_ : Int → Option R) : zf7 q0p q0v q0r q0x q0q q0w q14 q19 q1n q1x q1w q21 (fun c0_ => o (k_ c0_)) = o (zf7 q0p q0v q0r q0x q0q q0w q14 q19 q1n q1x q1w q21 k_) := by
  unfold zf7
  repeat (first | refine grd_out h0 ?_ | refine br_out ?_ ?_ | rfl | exact h0.symm)
noncomputable def zj1 (q0p : Nat) (q0v : List Nat) (q0r : Nat) (q0x : List Nat) (q0q : Nat) (q0w : List Nat) (q14 : Nat) (q19 : List Nat) (q1n : Int) (q1x : Nat) (q1w : Nat) (q21 : Int) : Bool := (zeu q0p q0v q0r q0x q0q q0w q14 q19 q1n q1x q1w q21).isSome
noncomputable def zha (q0p : Nat) (q0v : List Nat) (q0r : Nat) (q0x : List Nat) (q0q : Nat) (q0w : List Nat) (q14 : Nat) (q19 : List Nat) (q1n : Int) (q1x : Nat) (q1w : Nat) (q21 : Int) : Int := ((zeu q0p q0v q0r q0x q0q q0w q14 q19 q1n q1x q1w q21).getD default)
theorem zva {q0p : Nat} {q0v : List Nat} {q0r : Nat} {q0x : List Nat} {q0q : Nat} {q0w : List Nat} {q14 : Nat} {q19 : List Nat} {q1n : Int} {q1x : Nat} {q1w : Nat} {q21 : Int} {r : Int} (h : zeu q0p q0v q0r q0x q0q q0w q14 q19 q1n q1x q1w q21 = some r) : zj1 q0p q0v q0r q0x q0q q0w q14 q19 q1n q1x q1w q21 = true ∧ zha q0p q0v q0r q0x q0q q0w q14 q19 q1n q1x q1w q21 = r := by
  unfold zj1 zha
  rw [h]
  exact ⟨rfl, rfl⟩
noncomputable def zbp {R : Type} (x : Nat) (k_ : Bool → Option R) : Option R := (grd (ziv x) (k_ (bnot (zh2 x))))
noncomputable def zbu (x : Nat) : Option (Bool) := zbp x (fun c0_ => some c0_)
theorem zqa {R R' : Type} (o : Option R → Option R') (h0 : o none = none) (x : Nat) (k_ : Bool → Option R) : zbp x (fun c0_ => o (k_ c0_)) = o (zbp x k_) := by
  unfold zbp
  repeat (first | refine grd_out h0 ?_ | refine br_out ?_ ?_ | rfl | exact h0.symm)
noncomputable def zi7 (x : Nat) : Bool := (zbu x).isSome
noncomputable def zgt (x : Nat) : Bool := ((zbu x).getD default)
theorem zsy {x : Nat} {r : Bool} (h : zbu x = some r) : zi7 x = true ∧ zgt x = r := by
  unfold zi7 zgt
  rw [h]
  exact ⟨rfl, rfl⟩
noncomputable def ziq {R : Type} (x : Nat) (k_ : Nat → Option R) : Option R := (grd (bnot (nanQ FloatKind.f64 x)) (k_ (fint Ieee.Toward.zero x)))
noncomputable def zj6 (x : Nat) : Option (Nat) := ziq x (fun c0_ => some c0_)
theorem zuc {R R' : Type} (o : Option R → Option R') (h0 : o none = none) (x : Nat) (k_ : Nat → Option R) : ziq x (fun c0_ => o (k_ c0_)) = o (ziq x k_) := by
  unfold ziq
  repeat (first | refine grd_out h0 ?_ | refine br_out ?_ ?_ | rfl | exact h0.symm)
noncomputable def zmd (x : Nat) : Bool := (zj6 x).isSome
noncomputable def ze8 (x : Nat) : Nat := ((zj6 x).getD default)
theorem zwl {x : Nat} {r : Nat} (h : zj6 x = some r) : zmd x = true ∧ ze8 x = r := by
  unfold zmd ze8
  rw [h]
  exact ⟨rfl, rfl⟩
noncomputable def zcg {R : Type} (a_n : Nat) (a : List Nat) (k_ : Nat → (List Nat) → Option R) : Option R := (grd (okMk (Int.ofNat a_n) (Int.ofNat a_n) 4) (grd (zbo a_n (toN (Int.ofNat a_n)) a 0 (rF (muN (toN (Int.ofNat a_n)) 1))) (k_ (toN (Int.ofNat a_n)) (za5 a_n (toN (Int.ofNat a_n)) a 0 (rF (muN (toN (Int.ofNat a_n)) 1))))))
noncomputable def za6 (a_n : Nat) (a : List Nat) : Option (Nat × (List Nat)) := zcg a_n a (fun c0_ c1_ => some (c0_, c1_))
theorem zpa {R R' : Type} (o : Option R → Option R') (h0 : o none = none) (a_n : Nat) (a : List Nat) (k_ : Nat → (List Nat) → Option R) : zcg a_n a (fun c0_ c1_ => o (k_ c0_ c1_)) = o (zcg a_n a k_) := by
  unfold zcg
  repeat (first | refine grd_out h0 ?_ | refine br_out ?_ ?_ | rfl | exact h0.symm)
noncomputable def zc7 (a_n : Nat) (a : List Nat) : Bool := (za6 a_n a).isSome
noncomputable def zay (a_n : Nat) (a : List Nat) : Nat := ((za6 a_n a).getD default).1
noncomputable def zb0 (a_n : Nat) (a : List Nat) : List Nat := ((za6 a_n a).getD default).2
theorem zkz {a_n : Nat} {a : List Nat} {r : Nat × (List Nat)} (h : za6 a_n a = some r) : zc7 a_n a = true ∧ zay a_n a = r.1 ∧ zb0 a_n a = r.2 := by
  unfold zc7 zay zb0
  rw [h]
  exact ⟨rfl, rfl, rfl⟩
noncomputable def z7g {R : Type} (an : Nat) (q26 : Nat) (b0 : List Nat) (i : Int) (b1 : List Nat) (kn_ : Int → (List Nat) → Option R) (k0_ : Int → Bool → (List Nat) → Option R) : Option R := (br (ltI i (Int.ofNat an)) (grd (okIx i an) (grd (zlv (gF b0 (ixO 0 i 3)) (gF b0 (Nat.succ (ixO 0 i 3))) (gF b0 (Nat.succ (Nat.succ (ixO 0 i 3))))) (grd (okIx i q26) (kn_ (addI IntKind.i64 i 1) (sF (sF (sF b1 (ixO 0 i 3) (gF b0 (ixO 0 i 3))) (Nat.succ (ixO 0 i 3)) (gF b0 (Nat.succ (ixO 0 i 3)))) (Nat.succ (Nat.succ (ixO 0 i 3))) (gF b0 (Nat.succ (Nat.succ (ixO 0 i 3))))))))) (k0_ i (ltI i (Int.ofNat an)) b1))
theorem znr {R R' : Type} (o : Option R → Option R') (h0 : o none = none) (an : Nat) (q26 : Nat) (b0 : List Nat) (i : Int) (b1 : List Nat) (kn_ : Int → (List Nat) → Option R) (k0_ : Int → Bool → (List Nat) → Option R) : z7g an q26 b0 i b1 (fun i' b1' => o (kn_ i' b1')) (fun c0_ c1_ c2_ => o (k0_ c0_ c1_ c2_)) = o (z7g an q26 b0 i b1 kn_ k0_) := by
  unfold z7g
  repeat (first | refine grd_out h0 ?_ | refine br_out ?_ ?_ | rfl | exact h0.symm)
noncomputable def z3s (an : Nat) (q26 : Nat) (b0 : List Nat) : Nat → Int → (List Nat) → Option ((Int × Bool × (List Nat)))
  | 0, _, _ => none
  | n + 1, i, b1 => z7g an q26 b0  i b1  (fun i' b1' => z3s an q26 b0 n i' b1') (fun c0_ c1_ c2_ => some (c0_, c1_, c2_))
theorem zke (an : Nat) (q26 : Nat) (b0 : List Nat) (n : Nat) (i : Int) (b1 : List Nat) : z3s an q26 b0 (n + 1) i b1 = z7g an q26 b0  i b1  (fun i' b1' => z3s an q26 b0 n i' b1') (fun c0_ c1_ c2_ => some (c0_, c1_, c2_)) := rfl
noncomputable def zbi (an : Nat) (q26 : Nat) (b0 : List Nat) (i : Int) (b1 : List Nat) : Bool := (z3s an q26 b0 big i b1).isSome
noncomputable def zg1 (an : Nat) (q26 : Nat) (b0 : List Nat) (i : Int) (b1 : List Nat) : Int := ((z3s an q26 b0 big i b1).getD default).1
noncomputable def zfv (an : Nat) (q26 : Nat) (b0 : List Nat) (i : Int) (b1 : List Nat) : Bool := ((z3s an q26 b0 big i b1).getD default).2.1
noncomputable def za3 (an : Nat) (q26 : Nat) (b0 : List Nat) (i : Int) (b1 : List Nat) : List Nat := ((z3s an q26 b0 big i b1).getD default).2.2
theorem zp6 {an : Nat} {q26 : Nat} {b0 : List Nat} {i : Int} {b1 : List Nat} {m : Nat} {r : Int × Bool × (List Nat)} (hm : m = big) (h : z3s an q26 b0 m i b1 = some r) : zbi an q26 b0 i b1 = true ∧ zg1 an q26 b0 i b1 = r.1 ∧ zfv an q26 b0 i b1 = r.2.1 ∧ za3 an q26 b0 i b1 = r.2.2 := by
  subst hm
  unfold zbi zg1 zfv za3
  rw [h]
  exact ⟨rfl, rfl, rfl, rfl⟩
noncomputable def z7l {R : Type} (an : Nat) (bn : Nat) (b0 : List Nat) (b1 : List Nat) (i : Int) (kn_ : Int → Option R) (k0_ : Unit → Option R) (k1_ : Int → Bool → Option R) : Option R := (br (ltI i (Int.ofNat an)) (grd (okIx i an) (grd (okIx i bn) (grd (z7u (fcvV FloatKind.f32 FloatKind.f64 (gF b0 (ixO 0 i 1))) (fcvV FloatKind.f32 FloatKind.f64 (gF b1 (ixO 0 i 1)))) (br (bnot (z7e (fcvV FloatKind.f32 FloatKind.f64 (gF b0 (ixO 0 i 1))) (fcvV FloatKind.f32 FloatKind.f64 (gF b1 (ixO 0 i 1))))) (k0_ ()) (kn_ (addI IntKind.i64 i 1)))))) (k1_ i (ltI i (Int.ofNat an))))
theorem zo8 {R R' : Type} (o : Option R → Option R') (h0 : o none = none) (an : Nat) (bn : Nat) (b0 : List Nat) (b1 : List Nat) (i : Int) (kn_ : Int → Option R) (k0_ : Unit → Option R) (k1_ : Int → Bool → Option R) : z7l an bn b0 b1 i (fun i' => o (kn_ i')) (fun _ => o (k0_ ())) (fun c0_ c1_ => o (k1_ c0_ c1_)) = o (z7l an bn b0 b1 i kn_ k0_ k1_) := by
  unfold z7l
  repeat (first | refine grd_out h0 ?_ | refine br_out ?_ ?_ | rfl | exact h0.symm)
noncomputable def z60 (an : Nat) (bn : Nat) (b0 : List Nat) (b1 : List Nat) : Nat → Int → Option ((Unit) ⊕ (Int × Bool))
  | 0, _ => none
  | n + 1, i => z7l an bn b0 b1  i  (fun i' => z60 an bn b0 b1 n i') (fun _ => some (Sum.inl ())) (fun c0_ c1_ => some (Sum.inr (c0_, c1_)))
theorem zkl (an : Nat) (bn : Nat) (b0 : List Nat) (b1 : List Nat) (n : Nat) (i : Int) : z60 an bn b0 b1 (n + 1) i = z7l an bn b0 b1  i  (fun i' => z60 an bn b0 b1 n i') (fun _ => some (Sum.inl ())) (fun c0_ c1_ => some (Sum.inr (c0_, c1_))) := rfl
noncomputable def zem (an : Nat) (bn : Nat) (b0 : List Nat) (b1 : List Nat) (i : Int) : Bool := (z60 an bn b0 b1 big i).isSome
noncomputable def zdq (an : Nat) (bn : Nat) (b0 : List Nat) (b1 : List Nat) (i : Int) : Bool := oL (z60 an bn b0 b1 big i)
noncomputable def zg4 (an : Nat) (bn : Nat) (b0 : List Nat) (b1 : List Nat) (i : Int) : Int := ((tR (z60 an bn b0 b1 big i)).getD default).1
noncomputable def zg0 (an : Nat) (bn : Nat) (b0 : List Nat) (b1 : List Nat) (i : Int) : Bool := ((tR (z60 an bn b0 b1 big i)).getD default).2
theorem zou {an : Nat} {bn : Nat} {b0 : List Nat} {b1 : List Nat} {i : Int} {m : Nat} {r : Int × Bool} (hm : m = big) (h : z60 an bn b0 b1 m i = some (Sum.inr r)) : zem an bn b0 b1 i = true ∧ zdq an bn b0 b1 i = false ∧ zg4 an bn b0 b1 i = r.1 ∧ zg0 an bn b0 b1 i = r.2 := by
  subst hm
  unfold zem zdq zg4 zg0
  rw [h]
  exact ⟨rfl, rfl, rfl, rfl⟩
noncomputable def z6v {R : Type} (t6 : Nat) (t7 : Nat) (t8 : Int) (kn_ : Nat → Int → Option R) (k0_ : Nat → Int → Bool → Option R) : Option R := (br (leI 1 t8) (kn_ (fop BinOp.sub FloatKind.f64 4607182418800017408 (fop BinOp.quo FloatKind.f64 (fop BinOp.mul FloatKind.f64 t6 t7) (fOI FloatKind.f64 (mulI IntKind.i64 (mulI IntKind.i64 2 t8) (addI IntKind.i64 (mulI IntKind.i64 2 t8) 1))))) (subI IntKind.i64 t8 1)) (k0_ t7 t8 (leI 1 t8)))
theorem zmv {R R' : Type} (o : Option R → Option R') (h0 : o none = none) (t6 : Nat) (t7 : Nat) (t8 : Int) (kn_ : Nat → Int → Option R) (k0_ : Nat → Int → Bool → Option R) : z6v t6 t7 t8 (fun t7' t8' => o (kn_ t7' t8')) (fun c0_ c1_ c2_ => o (k0_ c0_ c1_ c2_)) = o (z6v t6 t7 t8 kn_ k0_) := by
  unfold z6v
  repeat (first | refine grd_out h0 ?_ | refine br_out ?_ ?_ | rfl | exact h0.symm)
noncomputable def z3j (t6 : Nat) : Nat → Nat → Int → Option ((Nat × Int × Bool))
  | 0, _, _ => none
  | n + 1, t7, t8 => z6v t6  t7 t8  (fun t7' t8' => z3j t6 n t7' t8') (fun c0_ c1_ c2_ => some (c0_, c1_, c2_))
theorem zjg (t6 : Nat) (n : Nat) (t7 : Nat) (t8 : Int) : z3j t6 (n + 1) t7 t8 = z6v t6  t7 t8  (fun t7' t8' => z3j t6 n t7' t8') (fun c0_ c1_ c2_ => some (c0_, c1_, c2_)) := rfl
noncomputable def z55 (t6 : Nat) (t7 : Nat) (t8 : Int) : Bool := (z3j t6 big t7 t8).isSome
noncomputable def z10 (t6 : Nat) (t7 : Nat) (t8 : Int) : Nat := ((z3j t6 big t7 t8).getD default).1
noncomputable def zeq (t6 : Nat) (t7 : Nat) (t8 : Int) : Int := ((z3j t6 big t7 t8).getD default).2.1
noncomputable def zel (t6 : Nat) (t7 : Nat) (t8 : Int) : Bool := ((z3j t6 big t7 t8).getD default).2.2
theorem zo4 {t6 : Nat} {t7 : Nat} {t8 : Int} {m : Nat} {r : Nat × Int × Bool} (hm : m = big) (h : z3j t6 m t7 t8 = some r) : z55 t6 t7 t8 = true ∧ z10 t6 t7 t8 = r.1 ∧ zeq t6 t7 t8 = r.2.1 ∧ zel t6 t7 t8 = r.2.2 := by
  subst hm
  unfold z55 z10 zeq zel
  rw [h]
  exact ⟨rfl, rfl, rfl, rfl⟩
noncomputable def zc0 {R : Type} (q25 : Nat) (k_ : Nat → Option R) : Option R := (grd (zmd q25) (br (fcmp BinOp.eql FloatKind.f64 (ze8 q25) 0) (br (fcmp BinOp.lss FloatKind.f64 (fop BinOp.sub FloatKind.f64 q25 0) 0) (k_ (fop BinOp.add FloatKind.f64 (fop BinOp.sub FloatKind.f64 q25 0) 4607182418800017408)) (k_ (fop BinOp.sub FloatKind.f64 q25 0))) (br (fcmp BinOp.lss FloatKind.f64 (fop BinOp.sub FloatKind.f64 q25 (ze8 q25)) 0) (k_ (fop BinOp.add FloatKind.f64 (fop BinOp.sub FloatKind.f64 q25 (ze8 q25)) 4607182418800017408)) (k_ (fop BinOp.sub FloatKind.f64 q25 (ze8 q25))))))
noncomputable def zc2 (q25 : Nat) : Option (Nat) := zc0 q25 (fun c0_ => some c0_)
theorem zq3 {R R' : Type} (o : Option R → Option R') (h0 : o none = none) (q25 : Nat) (k_ : Nat → Option R) : zc0 q25 (fun c0_ => o (k_ c0_)) = o (zc0 q25 k_) := by
  unfold zc0
  repeat (first | refine grd_out h0 ?_ | refine br_out ?_ ?_ | rfl | exact h0.symm)
noncomputable def zig (q25 : Nat) : Bool := (zc2 q25).isSome
noncomputable def z15 (q25 : Nat) : Nat := ((zc2 q25).getD default)
theorem zsf {q25 : Nat} {r : Nat} (h : zc2 q25 = some r) : zig q25 = true ∧ z15 q25 = r := by
  unfold zig z15
  rw [h]
  exact ⟨rfl, rfl⟩
noncomputable def zdc {R : Type} (q17 : Nat) (q1l : List Nat) (q1c : Nat) (q1o : List Nat) (q1d : Nat) (q1p : List Nat) (k_ : Nat → Nat → Nat → (List Nat) → (List Nat) → (List Nat) → Option R) : Option R := (grd (zc7 q17 (pF q1l 0 (muN q17 1))) (grd (zc7 q1c (pF q1o 0 (muN q1c 1))) (grd (zc7 q1d (pF q1p 0 (muN q1d 1))) (k_ (zay q17 (pF q1l 0 (muN q17 1))) (zay q1c (pF q1o 0 (muN q1c 1))) (zay q1d (pF q1p 0 (muN q1d 1))) (zb0 q17 (pF q1l 0 (muN q17 1))) (zb0 q1c (pF q1o 0 (muN q1c 1))) (zb0 q1d (pF q1p 0 (muN q1d 1)))))))
noncomputable def z7s (q17 : Nat) (q1l : List Nat) (q1c : Nat) (q1o : List Nat) (q1d : Nat) (q1p : List Nat) : Option (Nat × Nat × Nat × (List Nat) × (List Nat) × (List Nat)) := zdc q17 q1l q1c q1o q1d q1p (fun c0_ c1_ c2_ c3_ c4_ c5_ => some (c0_, c1_, c2_, c3_, c4_, c5_))
theorem zqh {R R' : Type} (o : Option R → Option R') (h0 : o none = none) (q17 : Nat) (q1l : List Nat) (q1c : Nat) (q1o : List Nat) (q1d : Nat) (q1p : List Nat) (k_ : Nat → Nat → Nat → (List Nat) → (List Nat) → (List Nat) → Option R) : zdc q17 q1l q1c q1o q1d q1p (fun c0_ c1_ c2_ c3_ c4_ c5_ => o (k_ c0_ c1_ c2_ c3_ c4_ c5_)) = o (zdc q17 q1l q1c q1o q1d q1p k_) := by
  unfold zdc
  repeat (first | refine grd_out h0 ?_ | refine br_out ?_ ?_ | rfl | exact h0.symm)
noncomputable def zjl (q17 : Nat) (q1l : List Nat) (q1c : Nat) (q1o : List Nat) (q1d : Nat) (q1p : List Nat) : Bool := (z7s q17 q1l q1c q1o q1d q1p).isSome
noncomputable def zi8 (q17 : Nat) (q1l : List Nat) (q1c : Nat) (q1o : List Nat) (q1d : Nat) (q1p : List Nat) : Nat := ((z7s q17 q1l q1c q1o q1d q1p).getD default).1
noncomputable def zi9 (q17 : Nat) (q1l : List Nat) (q1c : Nat) (q1o : List Nat) (q1d : Nat) (q1p : List Nat) : Nat := ((z7s q17 q1l q1c q1o q1d q1p).getD default).2.1
noncomputable def zhv (q17 : Nat) (q1l : List Nat) (q1c : Nat) (q1o : List Nat) (q1d : Nat) (q1p : List Nat) : Nat := ((z7s q17 q1l q1c q1o q1d q1p).getD default).2.2.1
noncomputable def zi1 (q17 : Nat) (q1l : List Nat) (q1c : Nat) (q1o : List Nat) (q1d : Nat) (q1p : List Nat) : List Nat := ((z7s q17 q1l q1c q1o q1d q1p).getD default).2.2.2.1
noncomputable def zic (q17 : Nat) (q1l : List Nat) (q1c : Nat) (q1o : List Nat) (q1d : Nat) (q1p : List Nat) : List Nat := ((z7s q17 q1l q1c q1o q1d q1p).getD default).2.2.2.2.1
noncomputable def zhw (q17 : Nat) (q1l : List Nat) (q1c : Nat) (q1o : List Nat) (q1d : Nat) (q1p : List Nat) : List Nat := ((z7s q17 q1l q1c q1o q1d q1p).getD default).2.2.2.2.2
theorem zti {q17 : Nat} {q1l : List Nat} {q1c : Nat} {q1o : List Nat} {q1d : Nat} {q1p : List Nat} {r : Nat × Nat × Nat × (List Nat) × (List Nat) × (List Nat)} (h : z7s q17 q1l q1c q1o q1d q1p = some r) : zjl q17 q1l q1c q1o q1d q1p = true ∧ zi8 q17 q1l q1c q1o q1d q1p = r.1 ∧ zi9 q17 q1l q1c q1o q1d q1p = r.2.1 ∧ zhv q17 q1l q1c q1o q1d q1p = r.2.2.1 ∧ zi1 q17 q1l q1c q1o q1d q1p = r.2.2.2.1 ∧ zic q17 q1l q1c q1o q1d q1p = r.2.2.2.2.1 ∧ zhw q17 q1l q1c q1o q1d q1p = r.2.2.2.2.2 := by
  unfold zjl zi8 zi9 zhv zi1 zic zhw
  rw [h]
  exact ⟨rfl, rfl, rfl, rfl, rfl, rfl, rfl⟩
noncomputable def zbq {R : Type} (a_n : Nat) (a : List Nat) (k_ : Nat → (List Nat) → Option R) : Option R := (grd (okMk (Int.ofNat a_n) (Int.ofNat a_n) 12) (grd (zbi a_n (toN (Int.ofNat a_n)) a 0 (rF (muN (toN (Int.ofNat a_n)) 3))) (k_ (toN (Int.ofNat a_n)) (za3 a_n (toN (Int.ofNat a_n)) a 0 (rF (muN (toN (Int.ofNat a_n)) 3))))))
noncomputable def za9 (a_n : Nat) (a : List Nat) : Option (Nat × (List Nat)) := zbq a_n a (fun c0_ c1_ => some (c0_, c1_))
theorem zpe {R R' : Type} (o : Option R → Option R') (h0 : o none = none) (a_n : Nat) (a : List Nat) (k_ : Nat → (List Nat) → Option R) : zbq a_n a (fun c0_ c1_ => o (k_ c0_ c1_)) = o (zbq a_n a k_) := by
  unfold zbq
  repeat (first | refine grd_out h0 ?_ | refine br_out ?_ ?_ | rfl | exact h0.symm)
noncomputable def zhy (a_n : Nat) (a : List Nat) : Bool := (za9 a_n a).isSome
noncomputable def zh8 (a_n : Nat) (a : List Nat) : Nat := ((za9 a_n a).getD default).1
noncomputable def zgv (a_n : Nat) (a : List Nat) : List Nat := ((za9 a_n a).getD default).2
theorem zsa {a_n : Nat} {a : List Nat} {r : Nat × (List Nat)} (h : za9 a_n a = some r) : zhy a_n a = true ∧ zh8 a_n a = r.1 ∧ zgv a_n a = r.2 := by
  unfold zhy zh8 zgv
  rw [h]
  exact ⟨rfl, rfl, rfl⟩
noncomputable def zc4 {R : Type} (a_n : Nat) (a : List Nat) (b_n : Nat) (b : List Nat) (k_ : Bool → Option R) : Option R := (br (neI (Int.ofNat a_n) (Int.ofNat b_n)) (k_ Bool.false) (grd (zem a_n b_n a b 0) (br (zdq a_n b_n a b 0) (k_ Bool.false) (k_ Bool.true))))
noncomputable def zc3 (a_n : Nat) (a : List Nat) (b_n : Nat) (b : List Nat) : Option (Bool) := zc4 a_n a b_n b (fun c0_ => some c0_)
theorem zq4 {R R' : Type} (o : Option R → Option R') (h0 : o none = none) (a_n : Nat) (a : List Nat) (b_n : Nat) (b : List Nat) (k_ : Bool → Option R) : zc4 a_n a b_n b (fun c0_ => o (k_ c0_)) = o (zc4 a_n a b_n b k_) := by
  unfold zc4
  repeat (first | refine grd_out h0 ?_ | refine br_out ?_ ?_ | rfl | exact h0.symm)
noncomputable def zbx (a_n : Nat) (a : List Nat) (b_n : Nat) (b : List Nat) : Bool := (zc3 a_n a b_n b).isSome
noncomputable def zax (a_n : Nat) (a : List Nat) (b_n : Nat) (b : List Nat) : Bool := ((zc3 a_n a b_n b).getD default)
theorem zkn {a_n : Nat} {a : List Nat} {b_n : Nat} {b : List Nat} {r : Bool} (h : zc3 a_n a b_n b = some r) : zbx a_n a b_n b = true ∧ zax a_n a b_n b = r := by
  unfold zbx zax
  rw [h]
  exact ⟨rfl, rfl⟩
noncomputable def z8u {R : Type} (q16 : Nat) (k_ : Nat → Option R) : Option R := (br (fcmp BinOp.neq FloatKind.f64 (fop BinOp.sub FloatKind.f64 q16 q16) 0) (grd zm3 (k_ zk5)) (br (fcmp BinOp.geq FloatKind.f64 q16 4841369599423283200) (k_ 0) (br (fcmp BinOp.leq FloatKind.f64 q16 14064741636278059008) (k_ 0) (grd (f2iB FloatKind.f64 q16 IntKind.i64) (br (fcmp BinOp.lss FloatKind.f64 (fop BinOp.sub FloatKind.f64 q16 (fOI FloatKind.f64 (f2iV FloatKind.f64 q16 IntKind.i64))) 0) (br (fcmp BinOp.geq FloatKind.f64 (fop BinOp.add FloatKind.f64 (fop BinOp.sub FloatKind.f64 q16 (fOI FloatKind.f64 (f2iV FloatKind.f64 q16 IntKind.i64))) 4607182418800017408) 4602678819172646912) (br (fcmp BinOp.gtr FloatKind.f64 (fop BinOp.sub FloatKind.f64 (fop BinOp.add FloatKind.f64 (fop BinOp.sub FloatKind.f64 q16 (fOI FloatKind.f64 (f2iV FloatKind.f64 q16 IntKind.i64))) 4607182418800017408) 4602678819172646912) 4598175219545276416) (grd (z55 (fop BinOp.mul FloatKind.f64 (fop BinOp.mul FloatKind.f64 (fop BinOp.sub FloatKind.f64 4602678819172646912 (fop BinOp.sub FloatKind.f64 (fop BinOp.add FloatKind.f64 (fop BinOp.sub FloatKind.f64 q16 (fOI FloatKind.f64 (f2iV FloatKind.f64 q16 IntKind.i64))) 4607182418800017408) 4602678819172646912)) 4618760256179416344) (fop BinOp.mul FloatKind.f64 (fop BinOp.sub FloatKind.f64 4602678819172646912 (fop BinOp.sub FloatKind.f64 (fop BinOp.add FloatKind.f64 (fop BinOp.sub FloatKind.f64 q16 (fOI FloatKind.f64 (f2iV FloatKind.f64 q16 IntKind.i64))) 4607182418800017408) 4602678819172646912)) 4618760256179416344)) 4607182418800017408 8) (br (fcmp BinOp.geq FloatKind.f64 (fop BinOp.add FloatKind.f64 (fop BinOp.sub FloatKind.f64 q16 (fOI FloatKind.f64 (f2iV FloatKind.f64 q16 IntKind.i64))) 4607182418800017408) 4602678819172646912) (k_ (fneg FloatKind.f64 (fop BinOp.mul FloatKind.f64 (fop BinOp.mul FloatKind.f64 (fop BinOp.sub FloatKind.f64 4602678819172646912 (fop BinOp.sub FloatKind.f64 (fop BinOp.add FloatKind.f64 (fop BinOp.sub FloatKind.f64 q16 (fOI FloatKind.f64 (f2iV FloatKind.f64 q16 IntKind.i64))) 4607182418800017408) 4602678819172646912)) 4618760256179416344) (z10 (fop BinOp.mul FloatKind.f64 (fop BinOp.mul FloatKind.f64 (fop BinOp.sub FloatKind.f64 4602678819172646912 (fop BinOp.sub FloatKind.f64 (fop BinOp.add FloatKind.f64 (fop BinOp.sub FloatKind.f64 q16 (fOI FloatKind.f64 (f2iV FloatKind.f64 q16 IntKind.i64))) 4607182418800017408) 4602678819172646912)) 4618760256179416344) (fop BinOp.mul FloatKind.f64 (fop BinOp.sub FloatKind.f64 4602678819172646912 (fop BinOp.sub FloatKind.f64 (fop BinOp.add FloatKind.f64 (fop BinOp.sub FloatKind.f64 q16 (fOI FloatKind.f64 (f2iV FloatKind.f64 q16 IntKind.i64))) 4607182418800017408) 4602678819172646912)) 4618760256179416344)) 4607182418800017408 8)))) (k_ (fop BinOp.mul FloatKind.f64 (fop BinOp.mul FloatKind.f64 (fop BinOp.sub FloatKind.f64 4602678819172646912 (fop BinOp.sub FloatKind.f64 (fop BinOp.add FloatKind.f64 (fop BinOp.sub FloatKind.f64 q16 (fOI FloatKind.f64 (f2iV FloatKind.f64 q16 IntKind.i64))) 4607182418800017408) 4602678819172646912)) 4618760256179416344) (z10 (fop BinOp.mul FloatKind.f64 (fop BinOp.mul FloatKind.f64 (fop BinOp.sub FloatKind.f64 4602678819172646912 (fop BinOp.sub FloatKind.f64 (fop BinOp.add FloatKind.f64 (fop BinOp.sub FloatKind.f64 q16 (fOI FloatKind.f64 (f2iV FloatKind.f64 q16 IntKind.i64))) 4607182418800017408) 4602678819172646912)) 4618760256179416344) (fop BinOp.mul FloatKind.f64 (fop BinOp.sub FloatKind.f64 4602678819172646912 (fop BinOp.sub FloatKind.f64 (fop BinOp.add FloatKind.f64 (fop BinOp.sub FloatKind.f64 q16 (fOI FloatKind.f64 (f2iV FloatKind.f64 q16 IntKind.i64))) 4607182418800017408) 4602678819172646912)) 4618760256179416344)) 4607182418800017408 8))))) (grd (z55 (fop BinOp.mul FloatKind.f64 (fop BinOp.mul FloatKind.f64 (fop BinOp.sub FloatKind.f64 (fop BinOp.add FloatKind.f64 (fop BinOp.sub FloatKind.f64 q16 (fOI FloatKind.f64 (f2iV FloatKind.f64 q16 IntKind.i64))) 4607182418800017408) 4602678819172646912) 4618760256179416344) (fop BinOp.mul FloatKind.f64 (fop BinOp.sub FloatKind.f64 (fop BinOp.add FloatKind.f64 (fop BinOp.sub FloatKind.f64 q16 (fOI FloatKind.f64 (f2iV FloatKind.f64 q16 IntKind.i64))) 4607182418800017408) 4602678819172646912) 4618760256179416344)) 4607182418800017408 8) (br (fcmp BinOp.geq FloatKind.f64 (fop BinOp.add FloatKind.f64 (fop BinOp.sub FloatKind.f64 q16 (fOI FloatKind.f64 (f2iV FloatKind.f64 q16 IntKind.i64))) 4607182418800017408) 4602678819172646912) (k_ (fneg FloatKind.f64 (fop BinOp.mul FloatKind.f64 (fop BinOp.mul FloatKind.f64 (fop BinOp.sub FloatKind.f64 (fop BinOp.add FloatKind.f64 (fop BinOp.sub FloatKind.f64 q16 (fOI FloatKind.f64 (f2iV FloatKind.f64 q16 IntKind.i64))) 4607182418800017408) 4602678819172646912) 4618760256179416344) (z10 (fop BinOp.mul FloatKind.f64 (fop BinOp.mul FloatKind.f64 (fop BinOp.sub FloatKind.f64 (fop BinOp.add FloatKind.f64 (fop BinOp.sub FloatKind.f64 q16 (fOI FloatKind.f64 (f2iV FloatKind.f64 q16 IntKind.i64))) 4607182418800017408) 4602678819172646912) 4618760256179416344) (fop BinOp.mul FloatKind.f64 (fop BinOp.sub FloatKind.f64 (fop BinOp.add FloatKind.f64 (fop BinOp.sub FloatKind.f64 q16 (fOI FloatKind.f64 (f2iV FloatKind.f64 q16 IntKind.i64))) 4607182418800017408) 4602678819172646912) 4618760256179416344)) 4607182418800017408 8)))) (k_ (fop BinOp.mul FloatKind.f64 (fop BinOp.mul FloatKind.f64 (fop BinOp.sub FloatKind.f64 (fop BinOp.add FloatKind.f64 (fop BinOp.sub FloatKind.f64 q16 (fOI FloatKind.f64 (f2iV FloatKind.f64 q16 IntKind.i64))) 4607182418800017408) 4602678819172646912) 4618760256179416344) (z10 (fop BinOp.mul FloatKind.f64 (fop BinOp.mul FloatKind.f64 (fop BinOp.sub FloatKind.f64 (fop BinOp.add FloatKind.f64 (fop BinOp.sub FloatKind.f64 q16 (fOI FloatKind.f64 (f2iV FloatKind.f64 q16 IntKind.i64))) 4607182418800017408) 4602678819172646912) 4618760256179416344) (fop BinOp.mul FloatKind.f64 (fop BinOp.sub FloatKind.f64 (fop BinOp.add FloatKind.f64 (fop BinOp.sub FloatKind.f64 q16 (fOI FloatKind.f64 (f2iV FloatKind.f64 q16 IntKind.i64))) 4607182418800017408) 4602678819172646912) 4618760256179416344)) 4607182418800017408 8)))))) (br (fcmp BinOp.gtr FloatKind.f64 (fop BinOp.add FloatKind.f64 (fop BinOp.sub FloatKind.f64 q16 (fOI FloatKind.f64 (f2iV FloatKind.f64 q16 IntKind.i64))) 4607182418800017408) 4598175219545276416) (grd (z55 (fop BinOp.mul FloatKind.f64 (fop BinOp.mul FloatKind.f64 (fop BinOp.sub FloatKind.f64 4602678819172646912 (fop BinOp.add FloatKind.f64 (fop BinOp.sub FloatKind.f64 q16 (fOI FloatKind.f64 (f2iV FloatKind.f64 q16 IntKind.i64))) 4607182418800017408)) 4618760256179416344) (fop BinOp.mul FloatKind.f64 (fop BinOp.sub FloatKind.f64 4602678819172646912 (fop BinOp.add FloatKind.f64 (fop BinOp.sub FloatKind.f64 q16 (fOI FloatKind.f64 (f2iV FloatKind.f64 q16 IntKind.i64))) 4607182418800017408)) 4618760256179416344)) 4607182418800017408 8) (br (fcmp BinOp.geq FloatKind.f64 (fop BinOp.add FloatKind.f64 (fop BinOp.sub FloatKind.f64 q16 (fOI FloatKind.f64 (f2iV FloatKind.f64 q16 IntKind.i64))) 4607182418800017408) 4602678819172646912) (k_ (fneg FloatKind.f64 (fop BinOp.mul FloatKind.f64 (fop BinOp.mul FloatKind.f64 (fop BinOp.sub FloatKind.f64 4602678819172646912 (fop BinOp.add FloatKind.f64 (fop BinOp.sub FloatKind.f64 q16 (fOI FloatKind.f64 (f2iV FloatKind.f64 q16 IntKind.i64))) 4607182418800017408)) 4618760256179416344) (z10 (fop BinOp.mul FloatKind.f64 (fop BinOp.mul FloatKind.f64 (fop BinOp.sub FloatKind.f64 4602678819172646912 (fop BinOp.add FloatKind.f64 (fop BinOp.sub FloatKind.f64 q16 (fOI FloatKind.f64 (f2iV FloatKind.f64 q16 IntKind.i64))) 4607182418800017408)) 4618760256179416344) (fop BinOp.mul FloatKind.f64 (fop BinOp.sub FloatKind.f64 4602678819172646912 (fop BinOp.add FloatKind.f64 (fop BinOp.sub FloatKind.f64 q16 (fOI FloatKind.f64 (f2iV FloatKind.f64 q16 IntKind.i64))) 4607182418800017408)) 4618760256179416344)) 4607182418800017408 8)))) (k_ (fop BinOp.mul FloatKind.f64 (fop BinOp.mul FloatKind.f64 (fop BinOp.sub FloatKind.f64 4602678819172646912 (fop BinOp.add FloatKind.f64 (fop BinOp.sub FloatKind.f64 q16 (fOI FloatKind.f64 (f2iV FloatKind.f64 q16 IntKind.i64))) 4607182418800017408)) 4618760256179416344) (z10 (fop BinOp.mul FloatKind.f64 (fop BinOp.mul FloatKind.f64 (fop BinOp.sub FloatKind.f64 4602678819172646912 (fop BinOp.add FloatKind.f64 (fop BinOp.sub FloatKind.f64 q16 (fOI FloatKind.f64 (f2iV FloatKind.f64 q16 IntKind.i64))) 4607182418800017408)) 4618760256179416344) (fop BinOp.mul FloatKind.f64 (fop BinOp.sub FloatKind.f64 4602678819172646912 (fop BinOp.add FloatKind.f64 (fop BinOp.sub FloatKind.f64 q16 (fOI FloatKind.f64 (f2iV FloatKind.f64 q16 IntKind.i64))) 4607182418800017408)) 4618760256179416344)) 4607182418800017408 8))))) (grd (z55 (fop BinOp.mul FloatKind.f64 (fop BinOp.mul FloatKind.f64 (fop BinOp.add FloatKind.f64 (fop BinOp.sub FloatKind.f64 q16 (fOI FloatKind.f64 (f2iV FloatKind.f64 q16 IntKind.i64))) 4607182418800017408) 4618760256179416344) (fop BinOp.mul FloatKind.f64 (fop BinOp.add FloatKind.f64 (fop BinOp.sub FloatKind.f64 q16 (fOI FloatKind.f64 (f2iV FloatKind.f64 q16 IntKind.i64))) 4607182418800017408) 4618760256179416344)) 4607182418800017408 8) (br (fcmp BinOp.geq FloatKind.f64 (fop BinOp.add FloatKind.f64 (fop BinOp.sub FloatKind.f64 q16 (fOI FloatKind.f64 (f2iV FloatKind.f64 q16 IntKind.i64))) 4607182418800017408) 4602678819172646912) (k_ (fneg FloatKind.f64 (fop BinOp.mul FloatKind.f64 (fop BinOp.mul FloatKind.f64 (fop BinOp.add FloatKind.f64 (fop BinOp.sub FloatKind.f64 q16 (fOI FloatKind.f64 (f2iV FloatKind.f64 q16 IntKind.i64))) 4607182418800017408) 4618760256179416344) (z10 (fop BinOp.mul FloatKind.f64 (fop BinOp.mul FloatKind.f64 (fop BinOp.add FloatKind.f64 (fop BinOp.sub FloatKind.f64 q16 (fOI FloatKind.f64 (f2iV FloatKind.f64 q16 IntKind.i64))) 4607182418800017408) 4618760256179416344) (fop BinOp.mul FloatKind.f64 (fop BinOp.add FloatKind.f64 (fop BinOp.sub FloatKind.f64 q16 (fOI FloatKind.f64 (f2iV FloatKind.f64 q16 IntKind.i64))) 4607182418800017408) 4618760256179416344)) 4607182418800017408 8)))) (k_ (fop BinOp.mul FloatKind.f64 (fop BinOp.mul FloatKind.f64 (fop BinOp.add FloatKind.f64 (fop BinOp.sub FloatKind.f64 q16 (fOI FloatKind.f64 (f2iV FloatKind.f64 q16 IntKind.i64))) 4607182418800017408) 4618760256179416344) (z10 (fop BinOp.mul FloatKind.f64 (fop BinOp.mul FloatKind.f64 (fop BinOp.add FloatKind.f64 (fop BinOp.sub FloatKind.f64 q16 (fOI FloatKind.f64 (f2iV FloatKind.f64 q16 IntKind.i64))) 4607182418800017408) 4618760256179416344) (fop BinOp.mul FloatKind.f64 (fop BinOp.add FloatKind.f64 (fop BinOp.sub FloatKind.f64 q16 (fOI FloatKind.f64 (f2iV FloatKind.f64 q16 IntKind.i64))) 4607182418800017408) 4618760256179416344)) 4607182418800017408 8))))))) (br (fcmp BinOp.geq FloatKind.f64 (fop BinOp.sub FloatKind.f64 q16 (fOI FloatKind.f64 (f2iV FloatKind.f64 q16 IntKind.i64))) 4602678819172646912) (br (fcmp BinOp.gtr FloatKind.f64 (fop BinOp.sub FloatKind.f64 (fop BinOp.sub FloatKind.f64 q16 (fOI FloatKind.f64 (f2iV FloatKind.f64 q16 IntKind.i64))) 4602678819172646912) 4598175219545276416) (grd (z55 (fop BinOp.mul FloatKind.f64 (fop BinOp.mul FloatKind.f64 (fop BinOp.sub FloatKind.f64 4602678819172646912 (fop BinOp.sub FloatKind.f64 (fop BinOp.sub FloatKind.f64 q16 (fOI FloatKind.f64 (f2iV FloatKind.f64 q16 IntKind.i64))) 4602678819172646912)) 4618760256179416344) (fop BinOp.mul FloatKind.f64 (fop BinOp.sub FloatKind.f64 4602678819172646912 (fop BinOp.sub FloatKind.f64 (fop BinOp.sub FloatKind.f64 q16 (fOI FloatKind.f64 (f2iV FloatKind.f64 q16 IntKind.i64))) 4602678819172646912)) 4618760256179416344)) 4607182418800017408 8) (br (fcmp BinOp.geq FloatKind.f64 (fop BinOp.sub FloatKind.f64 q16 (fOI FloatKind.f64 (f2iV FloatKind.f64 q16 IntKind.i64))) 4602678819172646912) (k_ (fneg FloatKind.f64 (fop BinOp.mul FloatKind.f64 (fop BinOp.mul FloatKind.f64 (fop BinOp.sub FloatKind.f64 4602678819172646912 (fop BinOp.sub FloatKind.f64 (fop BinOp.sub FloatKind.f64 q16 (fOI FloatKind.f64 (f2iV FloatKind.f64 q16 IntKind.i64))) 4602678819172646912)) 4618760256179416344) (z10 (fop BinOp.mul FloatKind.f64 (fop BinOp.mul FloatKind.f64 (fop BinOp.sub FloatKind.f64 4602678819172646912 (fop BinOp.sub FloatKind.f64 (fop BinOp.sub FloatKind.f64 q16 (fOI FloatKind.f64 (f2iV FloatKind.f64 q16 IntKind.i64))) 4602678819172646912)) 4618760256179416344) (fop BinOp.mul FloatKind.f64 (fop BinOp.sub FloatKind.f64 4602678819172646912 (fop BinOp.sub FloatKind.f64 (fop BinOp.sub FloatKind.f64 q16 (fOI FloatKind.f64 (f2iV FloatKind.f64 q16 IntKind.i64))) 4602678819172646912)) 4618760256179416344)) 4607182418800017408 8)))) (k_ (fop BinOp.mul FloatKind.f64 (fop BinOp.mul FloatKind.f64 (fop BinOp.sub FloatKind.f64 4602678819172646912 (fop BinOp.sub FloatKind.f64 (fop BinOp.sub FloatKind.f64 q16 (fOI FloatKind.f64 (f2iV FloatKind.f64 q16 IntKind.i64))) 4602678819172646912)) 4618760256179416344) (z10 (fop BinOp.mul FloatKind.f64 (fop BinOp.mul FloatKind.f64 (fop BinOp.sub FloatKind.f64 4602678819172646912 (fop BinOp.sub FloatKind.f64 (fop BinOp.sub FloatKind.f64 q16 (fOI FloatKind.f64 (f2iV FloatKind.f64 q16 IntKind.i64))) 4602678819172646912)) 4618760256179416344) (fop BinOp.mul FloatKind.f64 (fop BinOp.sub FloatKind.f64 4602678819172646912 (fop BinOp.sub FloatKind.f64 (fop BinOp.sub FloatKind.f64 q16 (fOI FloatKind.f64 (f2iV FloatKind.f64 q16 IntKind.i64))) 4602678819172646912)) 4618760256179416344)) 4607182418800017408 8))))) (grd (z55 (fop BinOp.mul FloatKind.f64 (fop BinOp.mul FloatKind.f64 (fop BinOp.sub FloatKind.f64 (fop BinOp.sub FloatKind.f64 q16 (fOI FloatKind.f64 (f2iV FloatKind.f64 q16 IntKind.i64))) 4602678819172646912) 4618760256179416344) (fop BinOp.mul FloatKind.f64 (fop BinOp.sub FloatKind.f64 (fop BinOp.sub FloatKind.f64 q16 (fOI FloatKind.f64 (f2iV FloatKind.f64 q16 IntKind.i64))) 4602678819172646912) 4618760256179416344)) 4607182418800017408 8) (br (fcmp BinOp.geq FloatKind.f64 (fop BinOp.sub FloatKind.f64 q16 (fOI FloatKind.f64 (f2iV FloatKind.f64 q16 IntKind.i64))) 4602678819172646912) (k_ (fneg FloatKind.f64 (fop BinOp.mul FloatKind.f64 (fop BinOp.mul FloatKind.f64 (fop BinOp.sub FloatKind.f64 (fop BinOp.sub FloatKind.f64 q16 (fOI FloatKind.f64 (f2iV FloatKind.f64 q16 IntKind.i64))) 4602678819172646912) 4618760256179416344) (z10 (fop BinOp.mul FloatKind.f64 (fop BinOp.mul FloatKind.f64 (fop BinOp.sub FloatKind.f64 (fop BinOp.sub FloatKind.f64 q16 (fOI FloatKind.f64 (f2iV FloatKind.f64 q16 IntKind.i64))) 4602678819172646912) 4618760256179416344) (fop BinOp.mul FloatKind.f64 (fop BinOp.sub FloatKind.f64 (fop BinOp.sub FloatKind.f64 q16 (fOI FloatKind.f64 (f2iV FloatKind.f64 q16 IntKind.i64))) 4602678819172646912) 4618760256179416344)) 4607182418800017408 8)))) (k_ (fop BinOp.mul FloatKind.f64 (fop BinOp.mul FloatKind.f64 (fop BinOp.sub FloatKind.f64 (fop BinOp.sub FloatKind.f64 q16 (fOI FloatKind.f64 (f2iV FloatKind.f64 q16 IntKind.i64))) 4602678819172646912) 4618760256179416344) (z10 (fop BinOp.mul FloatKind.f64 (fop BinOp.mul FloatKind.f64 (fop BinOp.sub FloatKind.f64 (fop BinOp.sub FloatKind.f64 q16 (fOI FloatKind.f64 (f2iV FloatKind.f64 q16 IntKind.i64))) 4602678819172646912) 4618760256179416344) (fop BinOp.mul FloatKind.f64 (fop BinOp.sub FloatKind.f64 (fop BinOp.sub FloatKind.f64 q16 (fOI FloatKind.f64 (f2iV FloatKind.f64 q16 IntKind.i64))) 4602678819172646912) 4618760256179416344)) 4607182418800017408 8)))))) (br (fcmp BinOp.gtr FloatKind.f64 (fop BinOp.sub FloatKind.f64 q16 (fOI FloatKind.f64 (f2iV FloatKind.f64 q16 IntKind.i64))) 4598175219545276416) (grd (z55 (fop BinOp.mul FloatKind.f64 (fop BinOp.mul FloatKind.f64 (fop BinOp.sub FloatKind.f64 4602678819172646912 (fop BinOp.sub FloatKind.f64 q16 (fOI FloatKind.f64 (f2iV FloatKind.f64 q16 IntKind.i64)))) 4618760256179416344) (fop BinOp.mul FloatKind.f64 (fop BinOp.sub FloatKind.f64 4602678819172646912 (fop BinOp.sub FloatKind.f64 q16 (fOI FloatKind.f64 (f2iV FloatKind.f64 q16 IntKind.i64)))) 4618760256179416344)) 4607182418800017408 8) (br (fcmp BinOp.geq FloatKind.f64 (fop BinOp.sub FloatKind.f64 q16 (fOI FloatKind.f64 (f2iV FloatKind.f64 q16 IntKind.i64))) 4602678819172646912) (k_ (fneg FloatKind.f64 (fop BinOp.mul FloatKind.f64 (fop BinOp.mul FloatKind.f64 (fop BinOp.sub FloatKind.f64 4602678819172646912 (fop BinOp.sub FloatKind.f64 q16 (fOI FloatKind.f64 (f2iV FloatKind.f64 q16 IntKind.i64)))) 4618760256179416344) (z10 (fop BinOp.mul FloatKind.f64 (fop BinOp.mul FloatKind.f64 (fop BinOp.sub FloatKind.f64 4602678819172646912 (fop BinOp.sub FloatKind.f64 q16 (fOI FloatKind.f64 (f2iV FloatKind.f64 q16 IntKind.i64)))) 4618760256179416344) (fop BinOp.mul FloatKind.f64 (fop BinOp.sub FloatKind.f64 4602678819172646912 (fop BinOp.sub FloatKind.f64 q16 (fOI FloatKind.f64 (f2iV FloatKind.f64 q16 IntKind.i64)))) 4618760256179416344)) 4607182418800017408 8)))) (k_ (fop BinOp.mul FloatKind.f64 (fop BinOp.mul FloatKind.f64 (fop BinOp.sub FloatKind.f64 4602678819172646912 (fop BinOp.sub FloatKind.f64 q16 (fOI FloatKind.f64 (f2iV FloatKind.f64 q16 IntKind.i64)))) 4618760256179416344) (z10 (fop BinOp.mul FloatKind.f64 (fop BinOp.mul FloatKind.f64 (fop BinOp.sub FloatKind.f64 4602678819172646912 (fop BinOp.sub FloatKind.f64 q16 (fOI FloatKind.f64 (f2iV FloatKind.f64 q16 IntKind.i64)))) 4618760256179416344) (fop BinOp.mul FloatKind.f64 (fop BinOp.sub FloatKind.f64 4602678819172646912 (fop BinOp.sub FloatKind.f64 q16 (fOI FloatKind.f64 (f2iV FloatKind.f64 q16 IntKind.i64)))) 4618760256179416344)) 4607182418800017408 8))))) (grd (z55 (fop BinOp.mul FloatKind.f64 (fop BinOp.mul FloatKind.f64 (fop BinOp.sub FloatKind.f64 q16 (fOI FloatKind.f64 (f2iV FloatKind.f64 q16 IntKind.i64))) 4618760256179416344) (fop BinOp.mul FloatKind.f64 (fop BinOp.sub FloatKind.f64 q16 (fOI FloatKind.f64 (f2iV FloatKind.f64 q16 IntKind.i64))) 4618760256179416344)) 4607182418800017408 8) (br (fcmp BinOp.geq FloatKind.f64 (fop BinOp.sub FloatKind.f64 q16 (fOI FloatKind.f64 (f2iV FloatKind.f64 q16 IntKind.i64))) 4602678819172646912) (k_ (fneg FloatKind.f64 (fop BinOp.mul FloatKind.f64 (fop BinOp.mul FloatKind.f64 (fop BinOp.sub FloatKind.f64 q16 (fOI FloatKind.f64 (f2iV FloatKind.f64 q16 IntKind.i64))) 4618760256179416344) (z10 (fop BinOp.mul FloatKind.f64 (fop BinOp.mul FloatKind.f64 (fop BinOp.sub FloatKind.f64 q16 (fOI FloatKind.f64 (f2iV FloatKind.f64 q16 IntKind.i64))) 4618760256179416344) (fop BinOp.mul FloatKind.f64 (fop BinOp.sub FloatKind.f64 q16 (fOI FloatKind.f64 (f2iV FloatKind.f64 q16 IntKind.i64))) 4618760256179416344)) 4607182418800017408 8)))) (k_ (fop BinOp.mul FloatKind.f64 (fop BinOp.mul FloatKind.f64 (fop BinOp.sub FloatKind.f64 q16 (fOI FloatKind.f64 (f2iV FloatKind.f64 q16 IntKind.i64))) 4618760256179416344) (z10 (fop BinOp.mul FloatKind.f64 (fop BinOp.mul FloatKind.f64 (fop BinOp.sub FloatKind.f64 q16 (fOI FloatKind.f64 (f2iV FloatKind.f64 q16 IntKind.i64))) 4618760256179416344) (fop BinOp.mul FloatKind.f64 (fop BinOp.sub FloatKind.f64 q16 (fOI FloatKind.f64 (f2iV FloatKind.f64 q16 IntKind.i64))) 4618760256179416344)) 4607182418800017408 8))))))))))))
noncomputable def z8c (q16 : Nat) : Option (Nat) := z8u q16 (fun c0_ => some c0_)
theorem zp0 {R R' : Type} (o : Option R → Option R') (h0 : o none = none) (q16 : Nat) (k_ : Nat → Option R) : z8u q16 (fun c0_ => o (k_ c0_)) = o (z8u q16 k_) := by
  unfold z8u
  repeat (first | refine grd_out h0 ?_ | refine br_out ?_ ?_ | rfl | exact h0.symm)
noncomputable def zhc (q16 : Nat) : Bool := (z8c q16).isSome
noncomputable def zcp (q16 : Nat) : Nat := ((z8c q16).getD default)
theorem zs5 {q16 : Nat} {r : Nat} (h : z8c q16 = some r) : zhc q16 = true ∧ zcp q16 = r := by
  unfold zhc zcp
  rw [h]
  exact ⟨rfl, rfl⟩
noncomputable def z7j {R : Type} (an : Nat) (bn : Nat) (b0 : List Nat) (b1 : List Nat) (i : Int) (kn_ : Int → Option R) (k0_ : Unit → Option R) (k1_ : Int → Bool → Option R) : Option R := (br (ltI i (Int.ofNat an)) (grd (okIx i an) (grd (okIx i bn) (grd (zji (gF b0 (ixO 0 i 3)) (gF b0 (Nat.succ (ixO 0 i 3))) (gF b0 (Nat.succ (Nat.succ (ixO 0 i 3)))) (gF b1 (ixO 0 i 3)) (gF b1 (Nat.succ (ixO 0 i 3))) (gF b1 (Nat.succ (Nat.succ (ixO 0 i 3))))) (br (bnot (zie (gF b0 (ixO 0 i 3)) (gF b0 (Nat.succ (ixO 0 i 3))) (gF b0 (Nat.succ (Nat.succ (ixO 0 i 3)))) (gF b1 (ixO 0 i 3)) (gF b1 (Nat.succ (ixO 0 i 3))) (gF b1 (Nat.succ (Nat.succ (ixO 0 i 3)))))) (k0_ ()) (kn_ (addI IntKind.i64 i 1)))))) (k1_ i (ltI i (Int.ofNat an))))
theorem znw {R R' : Type} (o : Option R → Option R') (h0 : o none = none) (an : Nat) (bn : Nat) (b0 : List Nat) (b1 : List Nat) (i : Int) (kn_ : Int → Option R) (k0_ : Unit → Option R) (k1_ : Int → Bool → Option R) : z7j an bn b0 b1 i (fun i' => o (kn_ i')) (fun _ => o (k0_ ())) (fun c0_ c1_ => o (k1_ c0_ c1_)) = o (z7j an bn b0 b1 i kn_ k0_ k1_) := by
  unfold z7j
  repeat (first | refine grd_out h0 ?_ | refine br_out ?_ ?_ | rfl | exact h0.symm)
noncomputable def z61 (an : Nat) (bn : Nat) (b0 : List Nat) (b1 : List Nat) : Nat → Int → Option ((Unit) ⊕ (Int × Bool))
  | 0, _ => none
  | n + 1, i => z7j an bn b0 b1  i  (fun i' => z61 an bn b0 b1 n i') (fun _ => some (Sum.inl ())) (fun c0_ c1_ => some (Sum.inr (c0_, c1_)))
theorem zkj (an : Nat) (bn : Nat) (b0 : List Nat) (b1 : List Nat) (n : Nat) (i : Int) : z61 an bn b0 b1 (n + 1) i = z7j an bn b0 b1  i  (fun i' => z61 an bn b0 b1 n i') (fun _ => some (Sum.inl ())) (fun c0_ c1_ => some (Sum.inr (c0_, c1_))) := rfl
noncomputable def zbf (an : Nat) (bn : Nat) (b0 : List Nat) (b1 : List Nat) (i : Int) : Bool := (z61 an bn b0 b1 big i).isSome
noncomputable def zaw (an : Nat) (bn : Nat) (b0 : List Nat) (b1 : List Nat) (i : Int) : Bool := oL (z61 an bn b0 b1 big i)
noncomputable def zfy (an : Nat) (bn : Nat) (b0 : List Nat) (b1 : List Nat) (i : Int) : Int := ((tR (z61 an bn b0 b1 big i)).getD default).1
noncomputable def zga (an : Nat) (bn : Nat) (b0 : List Nat) (b1 : List Nat) (i : Int) : Bool := ((tR (z61 an bn b0 b1 big i)).getD default).2
theorem zor {an : Nat} {bn : Nat} {b0 : List Nat} {b1 : List Nat} {i : Int} {m : Nat} {r : Int × Bool} (hm : m = big) (h : z61 an bn b0 b1 m i = some (Sum.inr r)) : zbf an bn b0 b1 i = true ∧ zaw an bn b0 b1 i = false ∧ zfy an bn b0 b1 i = r.1 ∧ zga an bn b0 b1 i = r.2 := by
  subst hm
  unfold zbf zaw zfy zga
  rw [h]
  exact ⟨rfl, rfl, rfl, rfl⟩
noncomputable def z1s {R : Type} (sn : Nat) (t7 : Int) (b0 : List Nat) (t8 : Int) (kn_ : Int → Option R) (k0_ : Int → Option R) (k1_ : Int → Bool → Option R) : Option R := (br (ltI t8 t7) (grd (okIx t8 sn) (grd (zgw (gF b0 (ixO 0 t8 1))) (br (zfo (gF b0 (ixO 0 t8 1))) (k0_ t8) (kn_ (addI IntKind.i64 t8 1))))) (k1_ t8 (ltI t8 t7)))
theorem zg6 {R R' : Type} (o : Option R → Option R') (h0 : o none = none) (sn : Nat) (t7 : Int) (b0 : List Nat) (t8 : Int) (kn_ : Int → Option R) (k0_ : Int → Option R) (k1_ : Int → Bool → Option R) : z1s sn t7 b0 t8 (fun t8' => o (kn_ t8')) (fun c0_ => o (k0_ c0_)) (fun c0_ c1_ => o (k1_ c0_ c1_)) = o (z1s sn t7 b0 t8 kn_ k0_ k1_) := by
  unfold z1s
  repeat (first | refine grd_out h0 ?_ | refine br_out ?_ ?_ | rfl | exact h0.symm)
noncomputable def z0q (sn : Nat) (t7 : Int) (b0 : List Nat) : Nat → Int → Option ((Int) ⊕ (Int × Bool))
  | 0, _ => none
  | n + 1, t8 => z1s sn t7 b0  t8  (fun t8' => z0q sn t7 b0 n t8') (fun c0_ => some (Sum.inl c0_)) (fun c0_ c1_ => some (Sum.inr (c0_, c1_)))
theorem z9r (sn : Nat) (t7 : Int) (b0 : List Nat) (n : Nat) (t8 : Int) : z0q sn t7 b0 (n + 1) t8 = z1s sn t7 b0  t8  (fun t8' => z0q sn t7 b0 n t8') (fun c0_ => some (Sum.inl c0_)) (fun c0_ c1_ => some (Sum.inr (c0_, c1_))) := rfl
noncomputable def z4o (sn : Nat) (t7 : Int) (b0 : List Nat) (t8 : Int) : Bool := (z0q sn t7 b0 big t8).isSome
noncomputable def z4g (sn : Nat) (t7 : Int) (b0 : List Nat) (t8 : Int) : Bool := oL (z0q sn t7 b0 big t8)
noncomputable def z6p (sn : Nat) (t7 : Int) (b0 : List Nat) (t8 : Int) : Int := ((tL (z0q sn t7 b0 big t8)).getD default)
noncomputable def z8i (sn : Nat) (t7 : Int) (b0 : List Nat) (t8 : Int) : Int := ((tR (z0q sn t7 b0 big t8)).getD default).1
noncomputable def z8g (sn : Nat) (t7 : Int) (b0 : List Nat) (t8 : Int) : Bool := ((tR (z0q sn t7 b0 big t8)).getD default).2
theorem zho {sn : Nat} {t7 : Int} {b0 : List Nat} {t8 : Int} {m : Nat} {r : Int} (hm : m = big) (h : z0q sn t7 b0 m t8 = some (Sum.inl r)) : z4o sn t7 b0 t8 = true ∧ z4g sn t7 b0 t8 = true ∧ z6p sn t7 b0 t8 = r := by
  subst hm
  unfold z4o z4g z6p
  rw [h]
  exact ⟨rfl, rfl, rfl⟩
theorem zhk {sn : Nat} {t7 : Int} {b0 : List Nat} {t8 : Int} {m : Nat} {r : Int × Bool} (hm : m = big) (h : z0q sn t7 b0 m t8 = some (Sum.inr r)) : z4o sn t7 b0 t8 = true ∧ z4g sn t7 b0 t8 = false ∧ z8i sn t7 b0 t8 = r.1 ∧ z8g sn t7 b0 t8 = r.2 := by
  subst hm
  unfold z4o z4g z8i z8g
  rw [h]
  exact ⟨rfl, rfl, rfl, rfl⟩
noncomputable def z1j {R : Type} (sn : Nat) (t7 : Int) (b0 : List Nat) (t8 : Int) (kn_ : Int → Option R) (k0_ : Int → Option R) (k1_ : Int → Bool → Option R) : Option R := (br (ltI t8 t7) (grd (okIx t8 sn) (grd (zef (gF b0 (ixO 0 t8 1))) (br (ze6 (gF b0 (ixO 0 t8 1))) (k0_ t8) (kn_ (addI IntKind.i64 t8 1))))) (k1_ t8 (ltI t8 t7)))
theorem zfn {R R' : Type} (o : Option R → Option R') (h0 : o none = none) (sn : Nat) (t7 : Int) (b0 : List Nat) (t8 : Int) (kn_ : Int → Option R) (k0_ : Int → Option R) (k1_ : Int → Bool → Option R) : z1j sn t7 b0 t8 (fun t8' => o (kn_ t8')) (fun c0_ => o (k0_ c0_)) (fun c0_ c1_ => o (k1_ c0_ c1_)) = o (z1j sn t7 b0 t8 kn_ k0_ k1_) := by
  unfold z1j
  repeat (first | refine grd_out h0 ?_ | refine br_out ?_ ?_ | rfl | exact h0.symm)
noncomputable def z0o (sn : Nat) (t7 : Int) (b0 : List Nat) : Nat → Int → Option ((Int) ⊕ (Int × Bool))
  | 0, _ => none
  | n + 1, t8 => z1j sn t7 b0  t8  (fun t8' => z0o sn t7 b0 n t8') (fun c0_ => some (Sum.inl c0_)) (fun c0_ c1_ => some (Sum.inr (c0_, c1_)))
theorem z9g (sn : Nat) (t7 : Int) (b0 : List Nat) (n : Nat) (t8 : Int) : z0o sn t7 b0 (n + 1) t8 = z1j sn t7 b0  t8  (fun t8' => z0o sn t7 b0 n t8') (fun c0_ => some (Sum.inl c0_)) (fun c0_ c1_ => some (Sum.inr (c0_, c1_))) := rfl
noncomputable def z47 (sn : Nat) (t7 : Int) (b0 : List Nat) (t8 : Int) : Bool := (z0o sn t7 b0 big t8).isSome
noncomputable def z3z (sn : Nat) (t7 : Int) (b0 : List Nat) (t8 : Int) : Bool := oL (z0o sn t7 b0 big t8)
noncomputable def z6h (sn : Nat) (t7 : Int) (b0 : List Nat) (t8 : Int) : Int := ((tL (z0o sn t7 b0 big t8)).getD default)
noncomputable def z82 (sn : Nat) (t7 : Int) (b0 : List Nat) (t8 : Int) : Int := ((tR (z0o sn t7 b0 big t8)).getD default).1
noncomputable def z83 (sn : Nat) (t7 : Int) (b0 : List Nat) (t8 : Int) : Bool := ((tR (z0o sn t7 b0 big t8)).getD default).2
theorem zg5 {sn : Nat} {t7 : Int} {b0 : List Nat} {t8 : Int} {m : Nat} {r : Int} (hm : m = big) (h : z0o sn t7 b0 m t8 = some (Sum.inl r)) : z47 sn t7 b0 t8 = true ∧ z3z sn t7 b0 t8 = true ∧ z6h sn t7 b0 t8 = r := by
  subst hm
  unfold z47 z3z z6h
  rw [h]
  exact ⟨rfl, rfl, rfl⟩
theorem zg2 {sn : Nat} {t7 : Int} {b0 : List Nat} {t8 : Int} {m : Nat} {r : Int × Bool} (hm : m = big) (h : z0o sn t7 b0 m t8 = some (Sum.inr r)) : z47 sn t7 b0 t8 = true ∧ z3z sn t7 b0 t8 = false ∧ z82 sn t7 b0 t8 = r.1 ∧ z83 sn t7 b0 t8 = r.2 := by
  subst hm
  unfold z47 z3z z82 z83
  rw [h]
  exact ⟨rfl, rfl, rfl, rfl⟩
noncomputable def z9e {R : Type} (t3 : Int) (b0 : List Nat) (b1 : List Nat) (b2 : List Nat) (q1e : Nat) (q1u : Nat) (q1t : Nat) (t4 : Int) (kn_ : Int → Option R) (k0_ : Unit → Option R) (k1_ : Int → Bool → Option R) : Option R := (br (ltI t4 t3) (grd (okIx t4 q1e) (br (fcmp BinOp.geq FloatKind.f32 (gF b0 (ixO 0 t4 1)) 3204448256) (grd (okIx t4 q1e) (br (bnot (fcmp BinOp.leq FloatKind.f32 (gF b0 (ixO 0 t4 1)) 1056964608)) (k0_ ()) (br (ltI 0 t4) (grd (okIx t4 q1e) (grd (okIx (subI IntKind.i64 t4 1) q1e) (br (fcmp BinOp.leq FloatKind.f32 (gF b0 (ixO 0 t4 1)) (gF b0 (ixO 0 (subI IntKind.i64 t4 1) 1))) (k0_ ()) (grd (okIx t4 q1u) (grd (z4r (gF b1 (ixO 0 t4 1))) (br (bnot (z4c (gF b1 (ixO 0 t4 1)))) (k0_ ()) (grd (okIx t4 q1t) (grd (zac (gF b2 (ixO 0 t4 1))) (br (bnot (z9o (gF b2 (ixO 0 t4 1)))) (k0_ ()) (kn_ (addI IntKind.i64 t4 1))))))))))) (grd (okIx t4 q1u) (grd (z4r (gF b1 (ixO 0 t4 1))) (br (bnot (z4c (gF b1 (ixO 0 t4 1)))) (k0_ ()) (grd (okIx t4 q1t) (grd (zac (gF b2 (ixO 0 t4 1))) (br (bnot (z9o (gF b2 (ixO 0 t4 1)))) (k0_ ()) (kn_ (addI IntKind.i64 t4 1))))))))))) (br (bnot Bool.false) (k0_ ()) (br (ltI 0 t4) (grd (okIx t4 q1e) (grd (okIx (subI IntKind.i64 t4 1) q1e) (br (fcmp BinOp.leq FloatKind.f32 (gF b0 (ixO 0 t4 1)) (gF b0 (ixO 0 (subI IntKind.i64 t4 1) 1))) (k0_ ()) (grd (okIx t4 q1u) (grd (z4r (gF b1 (ixO 0 t4 1))) (br (bnot (z4c (gF b1 (ixO 0 t4 1)))) (k0_ ()) (grd (okIx t4 q1t) (grd (zac (gF b2 (ixO 0 t4 1))) (br (bnot (z9o (gF b2 (ixO 0 t4 1)))) (k0_ ()) (kn_ (addI IntKind.i64 t4 1))))))))))) (grd (okIx t4 q1u) (grd (z4r (gF b1 (ixO 0 t4 1))) (br (bnot (z4c (gF b1 (ixO 0 t4 1)))) (k0_ ()) (grd (okIx t4 q1t) (grd (zac (gF b2 (ixO 0 t4 1))) (br (bnot (z9o (gF b2 (ixO 0 t4 1)))) (k0_ ()) (kn_ (addI IntKind.i64 t4 1)))))))))))) (k1_ t4 (ltI t4 t3)))
theorem zs4 {R R' : Type} (o : Option R → Option R') (h0 : o none = none) (t3 : Int) (b0 : List Nat) (b1 : List Nat) (b2 : List Nat) (q1e : Nat) (q1u : Nat) (q1t : Nat) (t4 : Int) (kn_ : Int → Option R) (k0_ : Unit → Option R) (k1_ : Int → Bool → Option R) : z9e t3 b0 b1 b2 q1e q1u q1t t4 (fun t4' => o (kn_ t4')) (fun _ => o (k0_ ())) (fun c0_ c1_ => o (k1_ c0_ c1_)) = o (z9e t3 b0 b1 b2 q1e q1u q1t t4 kn_ k0_ k1_) := by
  unfold z9e
  repeat (first | refine grd_out h0 ?_ | refine br_out ?_ ?_ | rfl | exact h0.symm)
noncomputable def z74 (t3 : Int) (b0 : List Nat) (b1 : List Nat) (b2 : List Nat) (q1e : Nat) (q1u : Nat) (q1t : Nat) : Nat → Int → Option ((Unit) ⊕ (Int × Bool))
  | 0, _ => none
  | n + 1, t4 => z9e t3 b0 b1 b2 q1e q1u q1t  t4  (fun t4' => z74 t3 b0 b1 b2 q1e q1u q1t n t4') (fun _ => some (Sum.inl ())) (fun c0_ c1_ => some (Sum.inr (c0_, c1_)))
theorem zma (t3 : Int) (b0 : List Nat) (b1 : List Nat) (b2 : List Nat) (q1e : Nat) (q1u : Nat) (q1t : Nat) (n : Nat) (t4 : Int) : z74 t3 b0 b1 b2 q1e q1u q1t (n + 1) t4 = z9e t3 b0 b1 b2 q1e q1u q1t  t4  (fun t4' => z74 t3 b0 b1 b2 q1e q1u q1t n t4') (fun _ => some (Sum.inl ())) (fun c0_ c1_ => some (Sum.inr (c0_, c1_))) := rfl
noncomputable def zab (t3 : Int) (b0 : List Nat) (b1 : List Nat) (b2 : List Nat) (q1e : Nat) (q1u : Nat) (q1t : Nat) (t4 : Int) : Bool := (z74 t3 b0 b1 b2 q1e q1u q1t big t4).isSome
noncomputable def z9q (t3 : Int) (b0 : List Nat) (b1 : List Nat) (b2 : List Nat) (q1e : Nat) (q1u : Nat) (q1t : Nat) (t4 : Int) : Bool := oL (z74 t3 b0 b1 b2 q1e q1u q1t big t4)
noncomputable def zkw (t3 : Int) (b0 : List Nat) (b1 : List Nat) (b2 : List Nat) (q1e : Nat) (q1u : Nat) (q1t : Nat) (t4 : Int) : Int := ((tR (z74 t3 b0 b1 b2 q1e q1u q1t big t4)).getD default).1
noncomputable def zky (t3 : Int) (b0 : List Nat) (b1 : List Nat) (b2 : List Nat) (q1e : Nat) (q1u : Nat) (q1t : Nat) (t4 : Int) : Bool := ((tR (z74 t3 b0 b1 b2 q1e q1u q1t big t4)).getD default).2
theorem ztp {t3 : Int} {b0 : List Nat} {b1 : List Nat} {b2 : List Nat} {q1e : Nat} {q1u : Nat} {q1t : Nat} {t4 : Int} {m : Nat} {r : Unit} (hm : m = big) (h : z74 t3 b0 b1 b2 q1e q1u q1t m t4 = some (Sum.inl r)) : zab t3 b0 b1 b2 q1e q1u q1t t4 = true ∧ z9q t3 b0 b1 b2 q1e q1u q1t t4 = true := by
  subst hm
  unfold zab z9q
  rw [h]
  exact ⟨rfl, rfl⟩
theorem ztf {t3 : Int} {b0 : List Nat} {b1 : List Nat} {b2 : List Nat} {q1e : Nat} {q1u : Nat} {q1t : Nat} {t4 : Int} {m : Nat} {r : Int × Bool} (hm : m = big) (h : z74 t3 b0 b1 b2 q1e q1u q1t m t4 = some (Sum.inr r)) : zab t3 b0 b1 b2 q1e q1u q1t t4 = true ∧ z9q t3 b0 b1 b2 q1e q1u q1t t4 = false ∧ zkw t3 b0 b1 b2 q1e q1u q1t t4 = r.1 ∧ zky t3 b0 b1 b2 q1e q1u q1t t4 = r.2 := by
  subst hm
  unfold zab z9q zkw zky
  rw [h]
  exact ⟨rfl, rfl, rfl, rfl⟩
noncomputable def zfa {R : Type} (q0p : Nat) (q0v : List Nat) (q0r : Nat) (q0x : List Nat) (q0q : Nat) (q0w : List Nat) (q14 : Nat) (q19 : List Nat) (q1n : Int) (q1x : Nat) (q1w : Nat) (k_ : Nat → Nat → Nat → Nat → (List Nat) → (List Nat) → (List Nat) → (List Nat) → Option R) : Option R := (grd (zjl q0p (pF q0v 0 (muN q0p 1)) q0r (pF q0x 0 (muN q0r 1)) q0q (pF q0w 0 (muN q0q 1))) (grd (zhy q14 (pF q19 0 (muN q14 3))) (k_ (zi8 q0p (pF q0v 0 (muN q0p 1)) q0r (pF q0x 0 (muN q0r 1)) q0q (pF q0w 0 (muN q0q 1))) (zi9 q0p (pF q0v 0 (muN q0p 1)) q0r (pF q0x 0 (muN q0r 1)) q0q (pF q0w 0 (muN q0q 1))) (zhv q0p (pF q0v 0 (muN q0p 1)) q0r (pF q0x 0 (muN q0r 1)) q0q (pF q0w 0 (muN q0q 1))) (zh8 q14 (pF q19 0 (muN q14 3))) (zi1 q0p (pF q0v 0 (muN q0p 1)) q0r (pF q0x 0 (muN q0r 1)) q0q (pF q0w 0 (muN q0q 1))) (zic q0p (pF q0v 0 (muN q0p 1)) q0r (pF q0x 0 (muN q0r 1)) q0q (pF q0w 0 (muN q0q 1))) (zhw q0p (pF q0v 0 (muN q0p 1)) q0r (pF q0x 0 (muN q0r 1)) q0q (pF q0w 0 (muN q0q 1))) (zgv q14 (pF q19 0 (muN q14 3))))))
noncomputable def z7o (q0p : Nat) (q0v : List Nat) (q0r : Nat) (q0x : List Nat) (q0q : Nat) (q0w : List Nat) (q14 : Nat) (q19 : List Nat) (q1n : Int) (q1x : Nat) (q1w : Nat) : Option (Nat × Nat × Nat × Nat × (List Nat) × (List Nat) × (List Nat) × (List Nat)) := zfa q0p q0v q0r q0x q0q q0w q14 q19 q1n q1x q1w (fun c0_ c1_ c2_ c3_ c4_ c5_ c6_ c7_ => some (c0_, c1_, c2_, c3_, c4_, c5_, c6_, c7_))
theorem zsn {R R' : Type} (o : Option R → Option R') (h0 : o none = none) (q0p : Nat) (q0v : List Nat) (q0r : Nat) (q0x : List Nat) (q0q : Nat) (q0w : List Nat) (q14 : Nat) (q19 : List Nat) (q1n : Int) (q1x : Nat) (q1w : Nat) (k_ : Nat → Nat → Nat → Nat → (List Nat) → (List Nat) → (List Nat) → (List Nat) → Option R) : zfa q0p q0v q0r q0x q0q q0w q14 q19 q1n q1x q1w (fun c0_ c1_ c2_ c3_ c4_ c5_ c6_ c7_ => o (k_ c0_ c1_ c2_ c3_ c4_ c5_ c6_ c7_)) = o (zfa q0p q0v q0r q0x q0q q0w q14 q19 q1n q1x q1w k_) := by
  unfold zfa
  repeat (first | refine grd_out h0 ?_ | refine br_out ?_ ?_ | rfl | exact h0.symm)
noncomputable def zdf (q0p : Nat) (q0v : List Nat) (q0r : Nat) (q0x : List Nat) (q0q : Nat) (q0w : List Nat) (q14 : Nat) (q19 : List Nat) (q1n : Int) (q1x : Nat) (q1w : Nat) : Bool := (z7o q0p q0v q0r q0x q0q q0w q14 q19 q1n q1x q1w).isSome
noncomputable def z0u (q0p : Nat) (q0v : List Nat) (q0r : Nat) (q0x : List Nat) (q0q : Nat) (q0w : List Nat) (q14 : Nat) (q19 : List Nat) (q1n : Int) (q1x : Nat) (q1w : Nat) : Nat := ((z7o q0p q0v q0r q0x q0q q0w q14 q19 q1n q1x q1w).getD default).1
noncomputable def z0x (q0p : Nat) (q0v : List Nat) (q0r : Nat) (q0x : List Nat) (q0q : Nat) (q0w : List Nat) (q14 : Nat) (q19 : List Nat) (q1n : Int) (q1x : Nat) (q1w : Nat) : Nat := ((z7o q0p q0v q0r q0x q0q q0w q14 q19 q1n q1x q1w).getD default).2.1
noncomputable def z0w (q0p : Nat) (q0v : List Nat) (q0r : Nat) (q0x : List Nat) (q0q : Nat) (q0w : List Nat) (q14 : Nat) (q19 : List Nat) (q1n : Int) (q1x : Nat) (q1w : Nat) : Nat := ((z7o q0p q0v q0r q0x q0q q0w q14 q19 q1n q1x q1w).getD default).2.2.1
noncomputable def z0v (q0p : Nat) (q0v : List Nat) (q0r : Nat) (q0x : List Nat) (q0q : Nat) (q0w : List Nat) (q14 : Nat) (q19 : List Nat) (q1n : Int) (q1x : Nat) (q1w : Nat) : Nat := ((z7o q0p q0v q0r q0x q0q q0w q14 q19 q1n q1x q1w).getD default).2.2.2.1
noncomputable def z43 (q0p : Nat) (q0v : List Nat) (q0r : Nat) (q0x : List Nat) (q0q : Nat) (q0w : List Nat) (q14 : Nat) (q19 : List Nat) (q1n : Int) (q1x : Nat) (q1w : Nat) : List Nat := ((z7o q0p q0v q0r q0x q0q q0w q14 q19 q1n q1x q1w).getD default).2.2.2.2.1
noncomputable def z40 (q0p : Nat) (q0v : List Nat) (q0r : Nat) (q0x : List Nat) (q0q : Nat) (q0w : List Nat) (q14 : Nat) (q19 : List Nat) (q1n : Int) (q1x : Nat) (q1w : Nat) : List Nat := ((z7o q0p q0v q0r q0x q0q q0w q14 q19 q1n q1x q1w).getD default).2.2.2.2.2.1
noncomputable def z41 (q0p : Nat) (q0v : List Nat) (q0r : Nat) (q0x : List Nat) (q0q : Nat) (q0w : List Nat) (q14 : Nat) (q19 : List Nat) (q1n : Int) (q1x : Nat) (q1w : Nat) : List Nat := ((z7o q0p q0v q0r q0x q0q q0w q14 q19 q1n q1x q1w).getD default).2.2.2.2.2.2.1
noncomputable def z3w (q0p : Nat) (q0v : List Nat) (q0r : Nat) (q0x : List Nat) (q0q : Nat) (q0w : List Nat) (q14 : Nat) (q19 : List Nat) (q1n : Int) (q1x : Nat) (q1w : Nat) : List Nat := ((z7o q0p q0v q0r q0x q0q q0w q14 q19 q1n q1x q1w).getD default).2.2.2.2.2.2.2
theorem zvn {q0p : Nat} {q0v : List Nat} {q0r : Nat} {q0x : List Nat} {q0q : Nat} {q0w : List Nat} {q14 : Nat} {q19 : List Nat} {q1n : Int} {q1x : Nat} {q1w : Nat} {r : Nat × Nat × Nat × Nat × (List Nat) × (List Nat) × (List Nat) × (List Nat)} (h : z7o q0p q0v q0r q0x q0q q0w q14 q19 q1n q1x q1w = some r) : zdf q0p q0v q0r q0x q0q q0w q14 q19 q1n q1x q1w = true ∧ z0u q0p q0v q0r q0x q0q q0w q14 q19 q1n q1x q1w = r.1 ∧ z0x q0p q0v q0r q0x q0q q0w q14 q19 q1n q1x q1w = r.2.1 ∧ z0w q0p q0v q0r q0x q0q q0w q14 q19 q1n q1x q1w = r.2.2.1 ∧ z0v q0p q0v q0r q0x q0q q0w q14 q19 q1n q1x q1w = r.2.2.2.1 ∧ z43 q0p q0v q0r q0x q0q q0w q14 q19 q1n q1x q1w = r.2.2.2.2.1 ∧ z40 q0p q0v q0r q0x q0q q0w q14 q19 q1n q1x q1w = r.2.2.2.2.2.1 ∧ z41 q0p q0v q0r q0x q0q q0w q14 q19 q1n q1x q1w = r.2.2.2.2.2.2.1 ∧ z3w q0p q0v q0r q0x q0q q0w q14 q19 q1n q1x q1w = r.2.2.2.2.2.2.2 := by
  unfold zdf z0u z0x z0w z0v z43 z40 z41 z3w
  rw [h]
  exact ⟨rfl, rfl, rfl, rfl, rfl, rfl, rfl, rfl, rfl⟩
noncomputable def zdg {R : Type} (q17 : Nat) (q1l : List Nat) (q1c : Nat) (q1o : List Nat) (q1d : Nat) (q1p : List Nat) (q2b : Nat) (q2i : List Nat) (q2e : Nat) (q2n : List Nat) (q2f : Nat) (q2k : List Nat) (k_ : Bool → Option R) : Option R := (grd (zbx q17 (pF q1l 0 (muN q17 1)) q2b (pF q2i 0 (muN q2b 1))) (br (bnot (zax q17 (pF q1l 0 (muN q17 1)) q2b (pF q2i 0 (muN q2b 1)))) (k_ Bool.false) (grd (zbx q1c (pF q1o 0 (muN q1c 1)) q2e (pF q2n 0 (muN q2e 1))) (br (bnot (zax q1c (pF q1o 0 (muN q1c 1)) q2e (pF q2n 0 (muN q2e 1)))) (k_ Bool.false) (grd (zbx q1d (pF q1p 0 (muN q1d 1)) q2f (pF q2k 0 (muN q2f 1))) (br (bnot (zax q1d (pF q1p 0 (muN q1d 1)) q2f (pF q2k 0 (muN q2f 1)))) (k_ Bool.false) (k_ Bool.true)))))))
noncomputable def zcq (q17 : Nat) (q1l : List Nat) (q1c : Nat) (q1o : List Nat) (q1d : Nat) (q1p : List Nat) (q2b : Nat) (q2i : List Nat) (q2e : Nat) (q2n : List Nat) (q2f : Nat) (q2k : List Nat) : Option (Bool) := zdg q17 q1l q1c q1o q1d q1p q2b q2i q2e q2n q2f q2k (fun c0_ => some c0_)
theorem zrc {R R' : Type} (o : Option R → Option R') (h0 : o none = none) (q17 : Nat) (q1l : List Nat) (q1c : Nat) (q1o : List Nat) (q1d : Nat) (q1p : List Nat) (q2b : Nat) (q2i : List Nat) (q2e : Nat) (q2n : List Nat) (q2f : Nat) (q2k : List Nat) (k_ : Bool → Option R) : zdg q17 q1l q1c q1o q1d q1p q2b q2i q2e q2n q2f q2k (fun c0_ => o (k_ c0_)) = o (zdg q17 q1l q1c q1o q1d q1p q2b q2i q2e q2n q2f q2k k_) := by
  unfold zdg
  repeat (first | refine grd_out h0 ?_ | refine br_out ?_ ?_ | rfl | exact h0.symm)
noncomputable def zjs (q17 : Nat) (q1l : List Nat) (q1c : Nat) (q1o : List Nat) (q1d : Nat) (q1p : List Nat) (q2b : Nat) (q2i : List Nat) (q2e : Nat) (q2n : List Nat) (q2f : Nat) (q2k : List Nat) : Bool := (zcq q17 q1l q1c q1o q1d q1p q2b q2i q2e q2n q2f q2k).isSome
noncomputable def zif (q17 : Nat) (q1l : List Nat) (q1c : Nat) (q1o : List Nat) (q1d : Nat) (q1p : List Nat) (q2b : Nat) (q2i : List Nat) (q2e : Nat) (q2n : List Nat) (q2f : Nat) (q2k : List Nat) : Bool := ((zcq q17 q1l q1c q1o q1d q1p q2b q2i q2e q2n q2f q2k).getD default)
theorem ztb {q17 : Nat} {q1l : List Nat} {q1c : Nat} {q1o : List Nat} {q1d : Nat} {q1p : List Nat} {q2b : Nat} {q2i : List Nat} {q2e : Nat} {q2n : List Nat} {q2f : Nat} {q2k : List Nat} {r : Bool} (h : zcq q17 q1l q1c q1o q1d q1p q2b q2i q2e q2n q2f q2k = some r) : zjs q17 q1l q1c q1o q1d q1p q2b q2i q2e q2n q2f q2k = true ∧ zif q17 q1l q1c q1o q1d q1p q2b q2i q2e q2n q2f q2k = r := by
  unfold zjs zif
  rw [h]
  exact ⟨rfl, rfl⟩
noncomputable def zc6 {R : Type} (a_n : Nat) (a : List Nat) (b_n : Nat) (b : List Nat) (k_ : Bool → Option R) : Option R := (br (neI (Int.ofNat a_n) (Int.ofNat b_n)) (k_ Bool.false) (grd (zbf a_n b_n a b 0) (br (zaw a_n b_n a b 0) (k_ Bool.false) (k_ Bool.true))))
noncomputable def zbt (a_n : Nat) (a : List Nat) (b_n : Nat) (b : List Nat) : Option (Bool) := zc6 a_n a b_n b (fun c0_ => some c0_)
theorem zpz {R R' : Type} (o : Option R → Option R') (h0 : o none = none) (a_n : Nat) (a : List Nat) (b_n : Nat) (b : List Nat) (k_ : Bool → Option R) : zc6 a_n a b_n b (fun c0_ => o (k_ c0_)) = o (zc6 a_n a b_n b k_) := by
  unfold zc6
  repeat (first | refine grd_out h0 ?_ | refine br_out ?_ ?_ | rfl | exact h0.symm)
noncomputable def zhx (a_n : Nat) (a : List Nat) (b_n : Nat) (b : List Nat) : Bool := (zbt a_n a b_n b).isSome
noncomputable def zgy (a_n : Nat) (a : List Nat) (b_n : Nat) (b : List Nat) : Bool := ((zbt a_n a b_n b).getD default)
theorem zsu {a_n : Nat} {a : List Nat} {b_n : Nat} {b : List Nat} {r : Bool} (h : zbt a_n a b_n b = some r) : zhx a_n a b_n b = true ∧ zgy a_n a b_n b = r := by
  unfold zhx zgy
  rw [h]
  exact ⟨rfl, rfl⟩
noncomputable def zf6 {R : Type} (x : Nat) (k_ : Nat → Option R) : Option R := (grd (zhc (fcvV FloatKind.f32 FloatKind.f64 x)) (grd (zff (zcp (fcvV FloatKind.f32 FloatKind.f64 x))) (k_ (zbs (zcp (fcvV FloatKind.f32 FloatKind.f64 x))))))
noncomputable def zd7 (x : Nat) : Option (Nat) := zf6 x (fun c0_ => some c0_)
theorem zsx {R R' : Type} (o : Option R → Option R') (h0 : o none = none) (x : Nat) (k_ : Nat → Option R) : zf6 x (fun c0_ => o (k_ c0_)) = o (zf6 x k_) := by
  unfold zf6
  repeat (first | refine grd_out h0 ?_ | refine br_out ?_ ?_ | rfl | exact h0.symm)
noncomputable def z9y (x : Nat) : Bool := (zd7 x).isSome
noncomputable def z62 (x : Nat) : Nat := ((zd7 x).getD default)
theorem ze1 {x : Nat} {r : Nat} (h : zd7 x = some r) : z9y x = true ∧ z62 x = r := by
  unfold z9y z62
  rw [h]
  exact ⟨rfl, rfl⟩
noncomputable def z5d {R : Type} (s_n : Nat) (s : List Nat) (k_ : Int → Option R) : Option R := (grd (z4o s_n (Int.ofNat s_n) s 0) (br (z4g s_n (Int.ofNat s_n) s 0) (k_ (z6p s_n (Int.ofNat s_n) s 0)) (k_ (Int.negSucc 0))))
noncomputable def z5e (s_n : Nat) (s : List Nat) : Option (Int) := z5d s_n s (fun c0_ => some c0_)
theorem zhq {R R' : Type} (o : Option R → Option R') (h0 : o none = none) (s_n : Nat) (s : List Nat) (k_ : Int → Option R) : z5d s_n s (fun c0_ => o (k_ c0_)) = o (z5d s_n s k_) := by
  unfold z5d
  repeat (first | refine grd_out h0 ?_ | refine br_out ?_ ?_ | rfl | exact h0.symm)
noncomputable def z7q (s_n : Nat) (s : List Nat) : Bool := (z5e s_n s).isSome
noncomputable def z7h (s_n : Nat) (s : List Nat) : Int := ((z5e s_n s).getD default)
theorem zjm {s_n : Nat} {s : List Nat} {r : Int} (h : z5e s_n s = some r) : z7q s_n s = true ∧ z7h s_n s = r := by
  unfold z7q z7h
  rw [h]
  exact ⟨rfl, rfl⟩
noncomputable def z51 {R : Type} (s_n : Nat) (s : List Nat) (k_ : Int → Option R) : Option R := (grd (z47 s_n (Int.ofNat s_n) s 0) (br (z3z s_n (Int.ofNat s_n) s 0) (k_ (z6h s_n (Int.ofNat s_n) s 0)) (k_ (Int.negSucc 0))))
noncomputable def z50 (s_n : Nat) (s : List Nat) : Option (Int) := z51 s_n s (fun c0_ => some c0_)
theorem zgn {R R' : Type} (o : Option R → Option R') (h0 : o none = none) (s_n : Nat) (s : List Nat) (k_ : Int → Option R) : z51 s_n s (fun c0_ => o (k_ c0_)) = o (z51 s_n s k_) := by
  unfold z51
  repeat (first | refine grd_out h0 ?_ | refine br_out ?_ ?_ | rfl | exact h0.symm)
noncomputable def z7b (s_n : Nat) (s : List Nat) : Bool := (z50 s_n s).isSome
noncomputable def z75 (s_n : Nat) (s : List Nat) : Int := ((z50 s_n s).getD default)
theorem zj9 {s_n : Nat} {s : List Nat} {r : Int} (h : z50 s_n s = some r) : z7b s_n s = true ∧ z75 s_n s = r := by
  unfold z7b z75
  rw [h]
  exact ⟨rfl, rfl⟩
noncomputable def zj3 {R : Type} (q0f : Nat) (q0k : List Nat) (q0s : Nat) (q0y : List Nat) (q0t : Nat) (q0z : List Nat) (k_ : Bool → Option R) : Option R := (br (ltI (Int.ofNat q0f) 2) (k_ Bool.false) (br (ltI 24 (Int.ofNat q0f)) (k_ Bool.false) (br (neI (Int.ofNat q0s) (Int.ofNat q0f)) (k_ Bool.false) (br (neI (Int.ofNat q0t) (Int.ofNat q0f)) (k_ Bool.false) (grd (zab (Int.ofNat q0f) q0k q0y q0z q0f q0s q0t 0) (br (z9q (Int.ofNat q0f) q0k q0y q0z q0f q0s q0t 0) (k_ Bool.false) (k_ Bool.true)))))))
noncomputable def zis (q0f : Nat) (q0k : List Nat) (q0s : Nat) (q0y : List Nat) (q0t : Nat) (q0z : List Nat) : Option (Bool) := zj3 q0f q0k q0s q0y q0t q0z (fun c0_ => some c0_)
theorem zuo {R R' : Type} (o : Option R → Option R') (h0 : o none = none) (q0f : Nat) (q0k : List Nat) (q0s : Nat) (q0y : List Nat) (q0t : Nat) (q0z : List Nat) (k_ : Bool → Option R) : zj3 q0f q0k q0s q0y q0t q0z (fun c0_ => o (k_ c0_)) = o (zj3 q0f q0k q0s q0y q0t q0z k_) := by
  unfold zj3
  repeat (first | refine grd_out h0 ?_ | refine br_out ?_ ?_ | rfl | exact h0.symm)
noncomputable def zm1 (q0f : Nat) (q0k : List Nat) (q0s : Nat) (q0y : List Nat) (q0t : Nat) (q0z : List Nat) : Bool := (zis q0f q0k q0s q0y q0t q0z).isSome
noncomputable def zlo (q0f : Nat) (q0k : List Nat) (q0s : Nat) (q0y : List Nat) (q0t : Nat) (q0z : List Nat) : Bool := ((zis q0f q0k q0s q0y q0t q0z).getD default)
theorem zwf {q0f : Nat} {q0k : List Nat} {q0s : Nat} {q0y : List Nat} {q0t : Nat} {q0z : List Nat} {r : Bool} (h : zis q0f q0k q0s q0y q0t q0z = some r) : zm1 q0f q0k q0s q0y q0t q0z = true ∧ zlo q0f q0k q0s q0y q0t q0z = r := by
  unfold zm1 zlo
  rw [h]
  exact ⟨rfl, rfl⟩
noncomputable def z20 {R : Type} (sn : Nat) (t7 : Int) (b0 : List Nat) (t8 : Int) (kn_ : Int → Option R) (k0_ : Int → Option R) (k1_ : Int → Bool → Option R) : Option R := (br (ltI t8 t7) (grd (okIx t8 sn) (grd (zi7 (gF b0 (ixO 0 t8 1))) (br (zgt (gF b0 (ixO 0 t8 1))) (k0_ t8) (kn_ (addI IntKind.i64 t8 1))))) (k1_ t8 (ltI t8 t7)))
theorem zh1 {R R' : Type} (o : Option R → Option R') (h0 : o none = none) (sn : Nat) (t7 : Int) (b0 : List Nat) (t8 : Int) (kn_ : Int → Option R) (k0_ : Int → Option R) (k1_ : Int → Bool → Option R) : z20 sn t7 b0 t8 (fun t8' => o (kn_ t8')) (fun c0_ => o (k0_ c0_)) (fun c0_ c1_ => o (k1_ c0_ c1_)) = o (z20 sn t7 b0 t8 kn_ k0_ k1_) := by
  unfold z20
  repeat (first | refine grd_out h0 ?_ | refine br_out ?_ ?_ | rfl | exact h0.symm)
noncomputable def z0r (sn : Nat) (t7 : Int) (b0 : List Nat) : Nat → Int → Option ((Int) ⊕ (Int × Bool))
  | 0, _ => none
  | n + 1, t8 => z20 sn t7 b0  t8  (fun t8' => z0r sn t7 b0 n t8') (fun c0_ => some (Sum.inl c0_)) (fun c0_ c1_ => some (Sum.inr (c0_, c1_)))
theorem za4 (sn : Nat) (t7 : Int) (b0 : List Nat) (n : Nat) (t8 : Int) : z0r sn t7 b0 (n + 1) t8 = z20 sn t7 b0  t8  (fun t8' => z0r sn t7 b0 n t8') (fun c0_ => some (Sum.inl c0_)) (fun c0_ c1_ => some (Sum.inr (c0_, c1_))) := rfl
noncomputable def z52 (sn : Nat) (t7 : Int) (b0 : List Nat) (t8 : Int) : Bool := (z0r sn t7 b0 big t8).isSome
noncomputable def z4m (sn : Nat) (t7 : Int) (b0 : List Nat) (t8 : Int) : Bool := oL (z0r sn t7 b0 big t8)
noncomputable def z6u (sn : Nat) (t7 : Int) (b0 : List Nat) (t8 : Int) : Int := ((tL (z0r sn t7 b0 big t8)).getD default)
noncomputable def z8l (sn : Nat) (t7 : Int) (b0 : List Nat) (t8 : Int) : Int := ((tR (z0r sn t7 b0 big t8)).getD default).1
noncomputable def z8j (sn : Nat) (t7 : Int) (b0 : List Nat) (t8 : Int) : Bool := ((tR (z0r sn t7 b0 big t8)).getD default).2
theorem zht {sn : Nat} {t7 : Int} {b0 : List Nat} {t8 : Int} {m : Nat} {r : Int} (hm : m = big) (h : z0r sn t7 b0 m t8 = some (Sum.inl r)) : z52 sn t7 b0 t8 = true ∧ z4m sn t7 b0 t8 = true ∧ z6u sn t7 b0 t8 = r := by
  subst hm
  unfold z52 z4m z6u
  rw [h]
  exact ⟨rfl, rfl, rfl⟩
theorem zhs {sn : Nat} {t7 : Int} {b0 : List Nat} {t8 : Int} {m : Nat} {r : Int × Bool} (hm : m = big) (h : z0r sn t7 b0 m t8 = some (Sum.inr r)) : z52 sn t7 b0 t8 = true ∧ z4m sn t7 b0 t8 = false ∧ z8l sn t7 b0 t8 = r.1 ∧ z8j sn t7 b0 t8 = r.2 := by
  subst hm
  unfold z52 z4m z8l z8j
  rw [h]
  exact ⟨rfl, rfl, rfl, rfl⟩
noncomputable def zet {R : Type} (q0p : Nat) (q0v : List Nat) (q0r : Nat) (q0x : List Nat) (q0q : Nat) (q0w : List Nat) (q14 : Nat) (q19 : List Nat) (q1n : Int) (q1x : Nat) (q1w : Nat) (q1y : Nat) (q22 : List Nat) (q1z : Nat) (q24 : List Nat) (q20 : Nat) (q23 : List Nat) (q2a : Nat) (q2c : List Nat) (q2o : Int) (q2q : Nat) (q2p : Nat) (k_ : Bool → Option R) : Option R := (grd (zjs q0p (pF q0v 0 (muN q0p 1)) q0r (pF q0x 0 (muN q0r 1)) q0q (pF q0w 0 (muN q0q 1)) q1y (pF q22 0 (muN q1y 1)) q1z (pF q24 0 (muN q1z 1)) q20 (pF q23 0 (muN q20 1))) (br (bnot (zif q0p (pF q0v 0 (muN q0p 1)) q0r (pF q0x 0 (muN q0r 1)) q0q (pF q0w 0 (muN q0q 1)) q1y (pF q22 0 (muN q1y 1)) q1z (pF q24 0 (muN q1z 1)) q20 (pF q23 0 (muN q20 1)))) (k_ Bool.false) (grd (zhx q14 (pF q19 0 (muN q14 3)) q2a (pF q2c 0 (muN q2a 3))) (br (bnot (zgy q14 (pF q19 0 (muN q14 3)) q2a (pF q2c 0 (muN q2a 3)))) (k_ Bool.false) (br (neI q1n q2o) (k_ Bool.false) (grd (z7u (fcvV FloatKind.f32 FloatKind.f64 q1x) (fcvV FloatKind.f32 FloatKind.f64 q2q)) (br (bnot (z7e (fcvV FloatKind.f32 FloatKind.f64 q1x) (fcvV FloatKind.f32 FloatKind.f64 q2q))) (k_ Bool.false) (grd (z7u (fcvV FloatKind.f32 FloatKind.f64 q1w) (fcvV FloatKind.f32 FloatKind.f64 q2p)) (br (bnot (z7e (fcvV FloatKind.f32 FloatKind.f64 q1w) (fcvV FloatKind.f32 FloatKind.f64 q2p))) (k_ Bool.false) (k_ Bool.true))))))))))
noncomputable def zf1 (q0p : Nat) (q0v : List Nat) (q0r : Nat) (q0x : List Nat) (q0q : Nat) (q0w : List Nat) (q14 : Nat) (q19 : List Nat) (q1n : Int) (q1x : Nat) (q1w : Nat) (q1y : Nat) (q22 : List Nat) (q1z : Nat) (q24 : List Nat) (q20 : Nat) (q23 : List Nat) (q2a : Nat) (q2c : List Nat) (q2o : Int) (q2q : Nat) (q2p : Nat) : Option (Bool) := zet q0p q0v q0r q0x q0q q0w q14 q19 q1n q1x q1w q1y q22 q1z q24 q20 q23 q2a q2c q2o q2q q2p (fun c0_ => some c0_)
theorem zt1 {R R' : Type} (o : Option R → Option R') (h0 : o none = none) (q0p : Nat) (q0v : List Nat) (q0r : Nat) (q0x : List Nat) (q0q : Nat) (q0w : List Nat) (q14 : Nat) (q19 : List Nat) (q1n : Int) (q1x : Nat) (q1w : Nat) (q1y : Nat) (q22 : List Nat) (q1z : Nat) (q24 : List Nat) (q20 : Nat) (q23 : List Nat) (q2a : Nat) (q2c : List Nat) (q2o : Int) (q2q : Nat) (q2p : Nat) (k_ : Bool → Option R) : zet q0p q0v q0r q0x q0q q0w q14 q19 q1n q1x q1w q1y q22 q1z q24 q20 q23 q2a q2c q2o q2q q2p (fun c0_ => o (k_ c0_)) = o (zet q0p q0v q0r q0x q0q q0w q14 q19 q1n q1x q1w q1y q22 q1z q24 q20 q23 q2a q2c q2o q2q q2p k_) := by
  unfold zet
  repeat (first | refine grd_out h0 ?_ | refine br_out ?_ ?_ | rfl | exact h0.symm)
noncomputable def zil (q0p : Nat) (q0v : List Nat) (q0r : Nat) (q0x : List Nat) (q0q : Nat) (q0w : List Nat) (q14 : Nat) (q19 : List Nat) (q1n : Int) (q1x : Nat) (q1w : Nat) (q1y : Nat) (q22 : List Nat) (q1z : Nat) (q24 : List Nat) (q20 : Nat) (q23 : List Nat) (q2a : Nat) (q2c : List Nat) (q2o : Int) (q2q : Nat) (q2p : Nat) : Bool := (zf1 q0p q0v q0r q0x q0q q0w q14 q19 q1n q1x q1w q1y q22 q1z q24 q20 q23 q2a q2c q2o q2q q2p).isSome
noncomputable def zgs (q0p : Nat) (q0v : List Nat) (q0r : Nat) (q0x : List Nat) (q0q : Nat) (q0w : List Nat) (q14 : Nat) (q19 : List Nat) (q1n : Int) (q1x : Nat) (q1w : Nat) (q1y : Nat) (q22 : List Nat) (q1z : Nat) (q24 : List Nat) (q20 : Nat) (q23 : List Nat) (q2a : Nat) (q2c : List Nat) (q2o : Int) (q2q : Nat) (q2p : Nat) : Bool := ((zf1 q0p q0v q0r q0x q0q q0w q14 q19 q1n q1x q1w q1y q22 q1z q24 q20 q23 q2a q2c q2o q2q q2p).getD default)
theorem zvm {q0p : Nat} {q0v : List Nat} {q0r : Nat} {q0x : List Nat} {q0q : Nat} {q0w : List Nat} {q14 : Nat} {q19 : List Nat} {q1n : Int} {q1x : Nat} {q1w : Nat} {q1y : Nat} {q22 : List Nat} {q1z : Nat} {q24 : List Nat} {q20 : Nat} {q23 : List Nat} {q2a : Nat} {q2c : List Nat} {q2o : Int} {q2q : Nat} {q2p : Nat} {r : Bool} (h : zf1 q0p q0v q0r q0x q0q q0w q14 q19 q1n q1x q1w q1y q22 q1z q24 q20 q23 q2a q2c q2o q2q q2p = some r) : zil q0p q0v q0r q0x q0q q0w q14 q19 q1n q1x q1w q1y q22 q1z q24 q20 q23 q2a q2c q2o q2q q2p = true ∧ zgs q0p q0v q0r q0x q0q q0w q14 q19 q1n q1x q1w q1y q22 q1z q24 q20 q23 q2a q2c q2o q2q q2p = r := by
  unfold zil zgs
  rw [h]
  exact ⟨rfl, rfl⟩
noncomputable def ziu {R : Type} (x : Nat) (k_ : Nat → Option R) : Option R := (grd (bnot (nanQ FloatKind.f64 x)) (k_ (fint Ieee.Toward.down x)))
noncomputable def ziz (x : Nat) : Option (Nat) := ziu x (fun c0_ => some c0_)
theorem zuf {R R' : Type} (o : Option R → Option R') (h0 : o none = none) (x : Nat) (k_ : Nat → Option R) : ziu x (fun c0_ => o (k_ c0_)) = o (ziu x k_) := by
  unfold ziu
  repeat (first | refine grd_out h0 ?_ | refine br_out ?_ ?_ | rfl | exact h0.symm)
noncomputable def zkr (x : Nat) : Bool := (ziz x).isSome
noncomputable def zao (x : Nat) : Nat := ((ziz x).getD default)
theorem zro {x : Nat} {r : Nat} (h : ziz x = some r) : zkr x = true ∧ zao x = r := by
  unfold zkr zao
  rw [h]
  exact ⟨rfl, rfl⟩
noncomputable def z5s {R : Type} (s_n : Nat) (s : List Nat) (k_ : Int → Option R) : Option R := (grd (z52 s_n (Int.ofNat s_n) s 0) (br (z4m s_n (Int.ofNat s_n) s 0) (k_ (z6u s_n (Int.ofNat s_n) s 0)) (k_ (Int.negSucc 0))))
noncomputable def z5r (s_n : Nat) (s : List Nat) : Option (Int) := z5s s_n s (fun c0_ => some c0_)
theorem zj0 {R R' : Type} (o : Option R → Option R') (h0 : o none = none) (s_n : Nat) (s : List Nat) (k_ : Int → Option R) : z5s s_n s (fun c0_ => o (k_ c0_)) = o (z5s s_n s k_) := by
  unfold z5s
  repeat (first | refine grd_out h0 ?_ | refine br_out ?_ ?_ | rfl | exact h0.symm)
noncomputable def z7z (s_n : Nat) (s : List Nat) : Bool := (z5r s_n s).isSome
noncomputable def z7r (s_n : Nat) (s : List Nat) : Int := ((z5r s_n s).getD default)
theorem zjy {s_n : Nat} {s : List Nat} {r : Int} (h : z5r s_n s = some r) : z7z s_n s = true ∧ z7r s_n s = r := by
  unfold z7z z7r
  rw [h]
  exact ⟨rfl, rfl⟩
noncomputable def z9x {R : Type} (u : Nat) (p : Nat) (k : Nat) (kn_ : Nat → Nat → Option R) (k0_ : Nat → Nat → Bool → Option R) : Option R := (br (fcmp BinOp.geq FloatKind.f64 k 4607182418800017408) (kn_ (fop BinOp.sub FloatKind.f64 4607182418800017408 (fop BinOp.quo FloatKind.f64 (fop BinOp.mul FloatKind.f64 u p) (fop BinOp.mul FloatKind.f64 (fop BinOp.mul FloatKind.f64 4611686018427387904 k) (fop BinOp.add FloatKind.f64 (fop BinOp.mul FloatKind.f64 4611686018427387904 k) 4607182418800017408)))) (fop BinOp.sub FloatKind.f64 k 4607182418800017408)) (k0_ p k (fcmp BinOp.geq FloatKind.f64 k 4607182418800017408)))
theorem zsv {R R' : Type} (o : Option R → Option R') (h0 : o none = none) (u : Nat) (p : Nat) (k : Nat) (kn_ : Nat → Nat → Option R) (k0_ : Nat → Nat → Bool → Option R) : z9x u p k (fun p' k' => o (kn_ p' k')) (fun c0_ c1_ c2_ => o (k0_ c0_ c1_ c2_)) = o (z9x u p k kn_ k0_) := by
  unfold z9x
  repeat (first | refine grd_out h0 ?_ | refine br_out ?_ ?_ | rfl | exact h0.symm)
noncomputable def z71 (u : Nat) : Nat → Nat → Nat → Option ((Nat × Nat × Bool))
  | 0, _, _ => none
  | n + 1, p, k => z9x u  p k  (fun p' k' => z71 u n p' k') (fun c0_ c1_ c2_ => some (c0_, c1_, c2_))
theorem zmf (u : Nat) (n : Nat) (p : Nat) (k : Nat) : z71 u (n + 1) p k = z9x u  p k  (fun p' k' => z71 u n p' k') (fun c0_ c1_ c2_ => some (c0_, c1_, c2_)) := rfl
noncomputable def zb1 (u : Nat) (p : Nat) (k : Nat) : Bool := (z71 u big p k).isSome
noncomputable def z97 (u : Nat) (p : Nat) (k : Nat) : Nat := ((z71 u big p k).getD default).1
noncomputable def zlj (u : Nat) (p : Nat) (k : Nat) : Nat := ((z71 u big p k).getD default).2.1
noncomputable def zlk (u : Nat) (p : Nat) (k : Nat) : Bool := ((z71 u big p k).getD default).2.2
theorem zuk {u : Nat} {p : Nat} {k : Nat} {m : Nat} {r : Nat × Nat × Bool} (hm : m = big) (h : z71 u m p k = some r) : zb1 u p k = true ∧ z97 u p k = r.1 ∧ zlj u p k = r.2.1 ∧ zlk u p k = r.2.2 := by
  subst hm
  unfold zb1 z97 zlj zlk
  rw [h]
  exact ⟨rfl, rfl, rfl, rfl⟩
noncomputable def zk4 {R : Type} (q25 : Nat) (k_ : Nat → Option R) : Option R := (grd (zig q25) (br (fcmp BinOp.geq FloatKind.f64 (z15 q25) 4602678819172646912) (br (fcmp BinOp.gtr FloatKind.f64 (fop BinOp.sub FloatKind.f64 (z15 q25) 4602678819172646912) 4598175219545276416) (grd (zb1 (fop BinOp.mul FloatKind.f64 (fop BinOp.mul FloatKind.f64 (fop BinOp.sub FloatKind.f64 4602678819172646912 (fop BinOp.sub FloatKind.f64 (z15 q25) 4602678819172646912)) 4618760256179416344) (fop BinOp.mul FloatKind.f64 (fop BinOp.sub FloatKind.f64 4602678819172646912 (fop BinOp.sub FloatKind.f64 (z15 q25) 4602678819172646912)) 4618760256179416344)) 4607182418800017408 4620693217682128896) (k_ (fneg FloatKind.f64 (fop BinOp.mul FloatKind.f64 (fop BinOp.mul FloatKind.f64 (fop BinOp.sub FloatKind.f64 4602678819172646912 (fop BinOp.sub FloatKind.f64 (z15 q25) 4602678819172646912)) 4618760256179416344) (z97 (fop BinOp.mul FloatKind.f64 (fop BinOp.mul FloatKind.f64 (fop BinOp.sub FloatKind.f64 4602678819172646912 (fop BinOp.sub FloatKind.f64 (z15 q25) 4602678819172646912)) 4618760256179416344) (fop BinOp.mul FloatKind.f64 (fop BinOp.sub FloatKind.f64 4602678819172646912 (fop BinOp.sub FloatKind.f64 (z15 q25) 4602678819172646912)) 4618760256179416344)) 4607182418800017408 4620693217682128896))))) (grd (zb1 (fop BinOp.mul FloatKind.f64 (fop BinOp.mul FloatKind.f64 (fop BinOp.sub FloatKind.f64 (z15 q25) 4602678819172646912) 4618760256179416344) (fop BinOp.mul FloatKind.f64 (fop BinOp.sub FloatKind.f64 (z15 q25) 4602678819172646912) 4618760256179416344)) 4607182418800017408 4620693217682128896) (k_ (fneg FloatKind.f64 (fop BinOp.mul FloatKind.f64 (fop BinOp.mul FloatKind.f64 (fop BinOp.sub FloatKind.f64 (z15 q25) 4602678819172646912) 4618760256179416344) (z97 (fop BinOp.mul FloatKind.f64 (fop BinOp.mul FloatKind.f64 (fop BinOp.sub FloatKind.f64 (z15 q25) 4602678819172646912) 4618760256179416344) (fop BinOp.mul FloatKind.f64 (fop BinOp.sub FloatKind.f64 (z15 q25) 4602678819172646912) 4618760256179416344)) 4607182418800017408 4620693217682128896)))))) (br (fcmp BinOp.gtr FloatKind.f64 (z15 q25) 4598175219545276416) (grd (zb1 (fop BinOp.mul FloatKind.f64 (fop BinOp.mul FloatKind.f64 (fop BinOp.sub FloatKind.f64 4602678819172646912 (z15 q25)) 4618760256179416344) (fop BinOp.mul FloatKind.f64 (fop BinOp.sub FloatKind.f64 4602678819172646912 (z15 q25)) 4618760256179416344)) 4607182418800017408 4620693217682128896) (k_ (fop BinOp.mul FloatKind.f64 (fop BinOp.mul FloatKind.f64 (fop BinOp.sub FloatKind.f64 4602678819172646912 (z15 q25)) 4618760256179416344) (z97 (fop BinOp.mul FloatKind.f64 (fop BinOp.mul FloatKind.f64 (fop BinOp.sub FloatKind.f64 4602678819172646912 (z15 q25)) 4618760256179416344) (fop BinOp.mul FloatKind.f64 (fop BinOp.sub FloatKind.f64 4602678819172646912 (z15 q25)) 4618760256179416344)) 4607182418800017408 4620693217682128896)))) (grd (zb1 (fop BinOp.mul FloatKind.f64 (fop BinOp.mul FloatKind.f64 (z15 q25) 4618760256179416344) (fop BinOp.mul FloatKind.f64 (z15 q25) 4618760256179416344)) 4607182418800017408 4620693217682128896) (k_ (fop BinOp.mul FloatKind.f64 (fop BinOp.mul FloatKind.f64 (z15 q25) 4618760256179416344) (z97 (fop BinOp.mul FloatKind.f64 (fop BinOp.mul FloatKind.f64 (z15 q25) 4618760256179416344) (fop BinOp.mul FloatKind.f64 (z15 q25) 4618760256179416344)) 4607182418800017408 4620693217682128896)))))))
noncomputable def zk6 (q25 : Nat) : Option (Nat) := zk4 q25 (fun c0_ => some c0_)
theorem zvj {R R' : Type} (o : Option R → Option R') (h0 : o none = none) (q25 : Nat) (k_ : Nat → Option R) : zk4 q25 (fun c0_ => o (k_ c0_)) = o (zk4 q25 k_) := by
  unfold zk4
  repeat (first | refine grd_out h0 ?_ | refine br_out ?_ ?_ | rfl | exact h0.symm)
noncomputable def zml (q25 : Nat) : Bool := (zk6 q25).isSome
noncomputable def zku (q25 : Nat) : Nat := ((zk6 q25).getD default)
theorem zwq {q25 : Nat} {r : Nat} (h : zk6 q25 = some r) : zml q25 = true ∧ zku q25 = r := by
  unfold zml zku
  rw [h]
  exact ⟨rfl, rfl⟩
noncomputable def zd9 {R : Type} (x : Nat) (k_ : Nat → Option R) : Option R := (grd (zkr (fop BinOp.add FloatKind.f64 (fcvV FloatKind.f32 FloatKind.f64 x) 4602678819172646912)) (grd (fcvB FloatKind.f64 FloatKind.f32 (fop BinOp.sub FloatKind.f64 (fcvV FloatKind.f32 FloatKind.f64 x) (zao (fop BinOp.add FloatKind.f64 (fcvV FloatKind.f32 FloatKind.f64 x) 4602678819172646912)))) (br (fcmp BinOp.geq FloatKind.f32 (fcvV FloatKind.f64 FloatKind.f32 (fop BinOp.sub FloatKind.f64 (fcvV FloatKind.f32 FloatKind.f64 x) (zao (fop BinOp.add FloatKind.f64 (fcvV FloatKind.f32 FloatKind.f64 x) 4602678819172646912)))) 1056964608) (k_ 3204448256) (k_ (fcvV FloatKind.f64 FloatKind.f32 (fop BinOp.sub FloatKind.f64 (fcvV FloatKind.f32 FloatKind.f64 x) (zao (fop BinOp.add FloatKind.f64 (fcvV FloatKind.f32 FloatKind.f64 x) 4602678819172646912))))))))
noncomputable def zcu (x : Nat) : Option (Nat) := zd9 x (fun c0_ => some c0_)
theorem zqm {R R' : Type} (o : Option R → Option R') (h0 : o none = none) (x : Nat) (k_ : Nat → Option R) : zd9 x (fun c0_ => o (k_ c0_)) = o (zd9 x k_) := by
  unfold zd9
  repeat (first | refine grd_out h0 ?_ | refine br_out ?_ ?_ | rfl | exact h0.symm)
noncomputable def zjq (x : Nat) : Bool := (zcu x).isSome
noncomputable def z3a (x : Nat) : Nat := ((zcu x).getD default)
theorem ztw {x : Nat} {r : Nat} (h : zcu x = some r) : zjq x = true ∧ z3a x = r := by
  unfold zjq z3a
  rw [h]
  exact ⟨rfl, rfl⟩
noncomputable def z4l {R : Type} (s_n : Nat) (s : List Nat) (k_ : Bool → Option R) : Option R := (grd (z7q s_n (pF s 0 (muN s_n 1))) (k_ (leI 0 (z7h s_n (pF s 0 (muN s_n 1))))))
noncomputable def z4n (s_n : Nat) (s : List Nat) : Option (Bool) := z4l s_n s (fun c0_ => some c0_)
theorem zg9 {R R' : Type} (o : Option R → Option R') (h0 : o none = none) (s_n : Nat) (s : List Nat) (k_ : Bool → Option R) : z4l s_n s (fun c0_ => o (k_ c0_)) = o (z4l s_n s k_) := by
  unfold z4l
  repeat (first | refine grd_out h0 ?_ | refine br_out ?_ ?_ | rfl | exact h0.symm)
noncomputable def z72 (s_n : Nat) (s : List Nat) : Bool := (z4n s_n s).isSome
noncomputable def z70 (s_n : Nat) (s : List Nat) : Bool := ((z4n s_n s).getD default)
theorem zhr {s_n : Nat} {s : List Nat} {r : Bool} (h : z4n s_n s = some r) : z72 s_n s = true ∧ z70 s_n s = r := by
  unfold z72 z70
  rw [h]
  exact ⟨rfl, rfl⟩
noncomputable def z48 {R : Type} (s_n : Nat) (s : List Nat) (k_ : Bool → Option R) : Option R := (grd (z7b s_n (pF s 0 (muN s_n 1))) (k_ (leI 0 (z75 s_n (pF s 0 (muN s_n 1))))))
noncomputable def z46 (s_n : Nat) (s : List Nat) : Option (Bool) := z48 s_n s (fun c0_ => some c0_)
theorem zfk {R R' : Type} (o : Option R → Option R') (h0 : o none = none) (s_n : Nat) (s : List Nat) (k_ : Bool → Option R) : z48 s_n s (fun c0_ => o (k_ c0_)) = o (z48 s_n s k_) := by
  unfold z48
  repeat (first | refine grd_out h0 ?_ | refine br_out ?_ ?_ | rfl | exact h0.symm)
noncomputable def z6w (s_n : Nat) (s : List Nat) : Bool := (z46 s_n s).isSome
noncomputable def z6n (s_n : Nat) (s : List Nat) : Bool := ((z46 s_n s).getD default)
theorem zgr {s_n : Nat} {s : List Nat} {r : Bool} (h : z46 s_n s = some r) : z6w s_n s = true ∧ z6n s_n s = r := by
  unfold z6w z6n
  rw [h]
  exact ⟨rfl, rfl⟩
noncomputable def z4y {R : Type} (s_n : Nat) (s : List Nat) (k_ : Bool → Option R) : Option R := (grd (z7z s_n (pF s 0 (muN s_n 1))) (k_ (leI 0 (z7r s_n (pF s 0 (muN s_n 1))))))
noncomputable def z4z (s_n : Nat) (s : List Nat) : Option (Bool) := z4y s_n s (fun c0_ => some c0_)
theorem zh0 {R R' : Type} (o : Option R → Option R') (h0 : o none = none) (s_n : Nat) (s : List Nat) (k_ : Bool → Option R) : z4y s_n s (fun c0_ => o (k_ c0_)) = o (z4y s_n s k_) := by
  unfold z4y
  repeat (first | refine grd_out h0 ?_ | refine br_out ?_ ?_ | rfl | exact h0.symm)
noncomputable def z7c (s_n : Nat) (s : List Nat) : Bool := (z4z s_n s).isSome
noncomputable def z76 (s_n : Nat) (s : List Nat) : Bool := ((z4z s_n s).getD default)
theorem zio {s_n : Nat} {s : List Nat} {r : Bool} (h : z4z s_n s = some r) : z7c s_n s = true ∧ z76 s_n s = r := by
  unfold z7c z76
  rw [h]
  exact ⟨rfl, rfl⟩
noncomputable def zex {R : Type} (x : Nat) (k_ : Nat → Option R) : Option R := (grd (zkr (fop BinOp.add FloatKind.f64 (fcvV FloatKind.f32 FloatKind.f64 x) 4602678819172646912)) (grd (zff (fop BinOp.sub FloatKind.f64 (fcvV FloatKind.f32 FloatKind.f64 x) (zao (fop BinOp.add FloatKind.f64 (fcvV FloatKind.f32 FloatKind.f64 x) 4602678819172646912)))) (br (fcmp BinOp.geq FloatKind.f32 (zbs (fop BinOp.sub FloatKind.f64 (fcvV FloatKind.f32 FloatKind.f64 x) (zao (fop BinOp.add FloatKind.f64 (fcvV FloatKind.f32 FloatKind.f64 x) 4602678819172646912)))) 1056964608) (k_ 3204448256) (k_ (zbs (fop BinOp.sub FloatKind.f64 (fcvV FloatKind.f32 FloatKind.f64 x) (zao (fop BinOp.add FloatKind.f64 (fcvV FloatKind.f32 FloatKind.f64 x) 4602678819172646912))))))))
noncomputable def zfb (x : Nat) : Option (Nat) := zex x (fun c0_ => some c0_)
theorem zs6 {R R' : Type} (o : Option R → Option R') (h0 : o none = none) (x : Nat) (k_ : Nat → Option R) : zex x (fun c0_ => o (k_ c0_)) = o (zex x k_) := by
  unfold zex
  repeat (first | refine grd_out h0 ?_ | refine br_out ?_ ?_ | rfl | exact h0.symm)
noncomputable def zla (x : Nat) : Bool := (zfb x).isSome
noncomputable def z01 (x : Nat) : Nat := ((zfb x).getD default)
theorem zv2 {x : Nat} {r : Nat} (h : zfb x = some r) : zla x = true ∧ z01 x = r := by
  unfold zla z01
  rw [h]
  exact ⟨rfl, rfl⟩
noncomputable def z9f {R : Type} (t57 : Int) (b3 : List Nat) (q18 : Nat) (q1b : Nat) (t4 : Nat) (t58 : Int) (kn_ : Nat → Int → Option R) (k0_ : Unit → Option R) (k1_ : Nat → Int → Bool → Option R) : Option R := (br (ltI t58 t57) (grd (okIx t58 q18) (br (bnot (fcmp BinOp.gtr FloatKind.f32 (gF b3 (ixO 0 t58 3)) t4)) (k0_ ()) (br (bnot (fcmp BinOp.lss FloatKind.f32 (gF b3 (ixO 0 t58 3)) q1b)) (k0_ ()) (grd (zbm (gF b3 (Nat.succ (ixO 0 t58 3)))) (br (bnot (zar (gF b3 (Nat.succ (ixO 0 t58 3))))) (k0_ ()) (grd (z4r (gF b3 (Nat.succ (Nat.succ (ixO 0 t58 3))))) (br (bnot (z4c (gF b3 (Nat.succ (Nat.succ (ixO 0 t58 3)))))) (k0_ ()) (kn_ (gF b3 (ixO 0 t58 3)) (addI IntKind.i64 t58 1))))))))) (k1_ t4 t58 (ltI t58 t57)))
theorem zrq {R R' : Type} (o : Option R → Option R') (h0 : o none = none) (t57 : Int) (b3 : List Nat) (q18 : Nat) (q1b : Nat) (t4 : Nat) (t58 : Int) (kn_ : Nat → Int → Option R) (k0_ : Unit → Option R) (k1_ : Nat → Int → Bool → Option R) : z9f t57 b3 q18 q1b t4 t58 (fun t4' t58' => o (kn_ t4' t58')) (fun _ => o (k0_ ())) (fun c0_ c1_ c2_ => o (k1_ c0_ c1_ c2_)) = o (z9f t57 b3 q18 q1b t4 t58 kn_ k0_ k1_) := by
  unfold z9f
  repeat (first | refine grd_out h0 ?_ | refine br_out ?_ ?_ | rfl | exact h0.symm)
noncomputable def z5o (t57 : Int) (b3 : List Nat) (q18 : Nat) (q1b : Nat) : Nat → Nat → Int → Option ((Unit) ⊕ (Nat × Int × Bool))
  | 0, _, _ => none
  | n + 1, t4, t58 => z9f t57 b3 q18 q1b  t4 t58  (fun t4' t58' => z5o t57 b3 q18 q1b n t4' t58') (fun _ => some (Sum.inl ())) (fun c0_ c1_ c2_ => some (Sum.inr (c0_, c1_, c2_)))
theorem zm5 (t57 : Int) (b3 : List Nat) (q18 : Nat) (q1b : Nat) (n : Nat) (t4 : Nat) (t58 : Int) : z5o t57 b3 q18 q1b (n + 1) t4 t58 = z9f t57 b3 q18 q1b  t4 t58  (fun t4' t58' => z5o t57 b3 q18 q1b n t4' t58') (fun _ => some (Sum.inl ())) (fun c0_ c1_ c2_ => some (Sum.inr (c0_, c1_, c2_))) := rfl
noncomputable def zbj (t57 : Int) (b3 : List Nat) (q18 : Nat) (q1b : Nat) (t4 : Nat) (t58 : Int) : Bool := (z5o t57 b3 q18 q1b big t4 t58).isSome
noncomputable def zav (t57 : Int) (b3 : List Nat) (q18 : Nat) (q1b : Nat) (t4 : Nat) (t58 : Int) : Bool := oL (z5o t57 b3 q18 q1b big t4 t58)
noncomputable def zko (t57 : Int) (b3 : List Nat) (q18 : Nat) (q1b : Nat) (t4 : Nat) (t58 : Int) : Nat := ((tR (z5o t57 b3 q18 q1b big t4 t58)).getD default).1
noncomputable def zl2 (t57 : Int) (b3 : List Nat) (q18 : Nat) (q1b : Nat) (t4 : Nat) (t58 : Int) : Int := ((tR (z5o t57 b3 q18 q1b big t4 t58)).getD default).2.1
noncomputable def zks (t57 : Int) (b3 : List Nat) (q18 : Nat) (q1b : Nat) (t4 : Nat) (t58 : Int) : Bool := ((tR (z5o t57 b3 q18 q1b big t4 t58)).getD default).2.2
theorem ztc {t57 : Int} {b3 : List Nat} {q18 : Nat} {q1b : Nat} {t4 : Nat} {t58 : Int} {m : Nat} {r : Unit} (hm : m = big) (h : z5o t57 b3 q18 q1b m t4 t58 = some (Sum.inl r)) : zbj t57 b3 q18 q1b t4 t58 = true ∧ zav t57 b3 q18 q1b t4 t58 = true := by
  subst hm
  unfold zbj zav
  rw [h]
  exact ⟨rfl, rfl⟩
theorem ztg {t57 : Int} {b3 : List Nat} {q18 : Nat} {q1b : Nat} {t4 : Nat} {t58 : Int} {m : Nat} {r : Nat × Int × Bool} (hm : m = big) (h : z5o t57 b3 q18 q1b m t4 t58 = some (Sum.inr r)) : zbj t57 b3 q18 q1b t4 t58 = true ∧ zav t57 b3 q18 q1b t4 t58 = false ∧ zko t57 b3 q18 q1b t4 t58 = r.1 ∧ zl2 t57 b3 q18 q1b t4 t58 = r.2.1 ∧ zks t57 b3 q18 q1b t4 t58 = r.2.2 := by
  subst hm
  unfold zbj zav zko zl2 zks
  rw [h]
  exact ⟨rfl, rfl, rfl, rfl, rfl⟩
noncomputable def zdd {R : Type} (q1k : Nat) (q1v : List Nat) (k_ : Bool → Option R) : Option R := (grd (z72 q1k (pF q1v 0 (muN q1k 1))) (k_ (bnot (z70 q1k (pF q1v 0 (muN q1k 1))))))
noncomputable def zat (q1k : Nat) (q1v : List Nat) : Option (Bool) := zdd q1k q1v (fun c0_ => some c0_)
theorem zqy {R R' : Type} (o : Option R → Option R') (h0 : o none = none) (q1k : Nat) (q1v : List Nat) (k_ : Bool → Option R) : zdd q1k q1v (fun c0_ => o (k_ c0_)) = o (zdd q1k q1v k_) := by
  unfold zdd
  repeat (first | refine grd_out h0 ?_ | refine br_out ?_ ?_ | rfl | exact h0.symm)
noncomputable def zfe (q1k : Nat) (q1v : List Nat) : Bool := (zat q1k q1v).isSome
noncomputable def zea (q1k : Nat) (q1v : List Nat) : Bool := ((zat q1k q1v).getD default)
theorem zn5 {q1k : Nat} {q1v : List Nat} {r : Bool} (h : zat q1k q1v = some r) : zfe q1k q1v = true ∧ zea q1k q1v = r := by
  unfold zfe zea
  rw [h]
  exact ⟨rfl, rfl⟩
noncomputable def zb7 {R : Type} (q1k : Nat) (q1v : List Nat) (k_ : Bool → Option R) : Option R := (grd (z6w q1k (pF q1v 0 (muN q1k 1))) (k_ (bnot (z6n q1k (pF q1v 0 (muN q1k 1))))))
noncomputable def z7n (q1k : Nat) (q1v : List Nat) : Option (Bool) := zb7 q1k q1v (fun c0_ => some c0_)
theorem zox {R R' : Type} (o : Option R → Option R') (h0 : o none = none) (q1k : Nat) (q1v : List Nat) (k_ : Bool → Option R) : zb7 q1k q1v (fun c0_ => o (k_ c0_)) = o (zb7 q1k q1v k_) := by
  unfold zb7
  repeat (first | refine grd_out h0 ?_ | refine br_out ?_ ?_ | rfl | exact h0.symm)
noncomputable def z9m (q1k : Nat) (q1v : List Nat) : Bool := (z7n q1k q1v).isSome
noncomputable def z9b (q1k : Nat) (q1v : List Nat) : Bool := ((z7n q1k q1v).getD default)
theorem zk7 {q1k : Nat} {q1v : List Nat} {r : Bool} (h : z7n q1k q1v = some r) : z9m q1k q1v = true ∧ z9b q1k q1v = r := by
  unfold z9m z9b
  rw [h]
  exact ⟨rfl, rfl⟩
noncomputable def ze0 {R : Type} (q1k : Nat) (q1v : List Nat) (k_ : Bool → Option R) : Option R := (grd (z7c q1k (pF q1v 0 (muN q1k 1))) (k_ (bnot (z76 q1k (pF q1v 0 (muN q1k 1))))))
noncomputable def zds (q1k : Nat) (q1v : List Nat) : Option (Bool) := ze0 q1k q1v (fun c0_ => some c0_)
theorem zrr {R R' : Type} (o : Option R → Option R') (h0 : o none = none) (q1k : Nat) (q1v : List Nat) (k_ : Bool → Option R) : ze0 q1k q1v (fun c0_ => o (k_ c0_)) = o (ze0 q1k q1v k_) := by
  unfold ze0
  repeat (first | refine grd_out h0 ?_ | refine br_out ?_ ?_ | rfl | exact h0.symm)
noncomputable def zki (q1k : Nat) (q1v : List Nat) : Bool := (zds q1k q1v).isSome
noncomputable def zjt (q1k : Nat) (q1v : List Nat) : Bool := ((zds q1k q1v).getD default)
theorem zue {q1k : Nat} {q1v : List Nat} {r : Bool} (h : zds q1k q1v = some r) : zki q1k q1v = true ∧ zjt q1k q1v = r := by
  unfold zki zjt
  rw [h]
  exact ⟨rfl, rfl⟩
noncomputable def zde {R : Type} (x : Nat) (k_ : Nat → Option R) : Option R := (grd (z77 x) (br (bnot (z6q x)) (grd zm3 (grd (fcvB FloatKind.f64 FloatKind.f32 zk5) (k_ (fcvV FloatKind.f64 FloatKind.f32 zk5)))) (grd (zlq (fcvV FloatKind.f32 FloatKind.f64 x)) (br (zld (fcvV FloatKind.f32 FloatKind.f64 x)) (k_ 0) (grd (zml (fcvV FloatKind.f32 FloatKind.f64 x)) (grd (fcvB FloatKind.f64 FloatKind.f32 (zku (fcvV FloatKind.f32 FloatKind.f64 x))) (k_ (fcvV FloatKind.f64 FloatKind.f32 (zku (fcvV FloatKind.f32 FloatKind.f64 x))))))))))
noncomputable def zd1 (x : Nat) : Option (Nat) := zde x (fun c0_ => some c0_)
theorem zqr {R R' : Type} (o : Option R → Option R') (h0 : o none = none) (x : Nat) (k_ : Nat → Option R) : zde x (fun c0_ => o (k_ c0_)) = o (zde x k_) := by
  unfold zde
  repeat (first | refine grd_out h0 ?_ | refine br_out ?_ ?_ | rfl | exact h0.symm)
noncomputable def z8m (x : Nat) : Bool := (zd1 x).isSome
noncomputable def z63 (x : Nat) : Nat := ((zd1 x).getD default)
theorem zc9 {x : Nat} {r : Nat} (h : zd1 x = some r) : z8m x = true ∧ z63 x = r := by
  unfold z8m z63
  rw [h]
  exact ⟨rfl, rfl⟩
noncomputable def zj5 {R : Type} (q00 : Nat) (q07 : List Nat) (q01 : Nat) (q09 : List Nat) (q02 : Nat) (q08 : List Nat) (q03 : Nat) (q0d : List Nat) (q0g : Int) (q0i : Nat) (q0j : Nat) (k_ : Bool → Option R) : Option R := (grd (zm1 q00 (pF q07 0 (muN q00 1)) q01 (pF q09 0 (muN q01 1)) q02 (pF q08 0 (muN q02 1))) (br (bnot (zlo q00 (pF q07 0 (muN q00 1)) q01 (pF q09 0 (muN q01 1)) q02 (pF q08 0 (muN q02 1)))) (k_ Bool.false) (br (ltI (Int.ofNat q03) 2) (k_ Bool.false) (br (ltI 12 (Int.ofNat q03)) (k_ Bool.false) (grd (zl1 q0g 1 6) (br (bnot (zjw q0g 1 6)) (k_ Bool.false) (grd (zac q0i) (br (bnot (z9o q0i)) (k_ Bool.false) (grd (z4r q0j) (br (bnot (z4c q0j)) (k_ Bool.false) (grd (zbj (Int.ofNat q03) q0d q03 q0j q0i 0) (br (zav (Int.ofNat q03) q0d q03 q0j q0i 0) (k_ Bool.false) (k_ Bool.true)))))))))))))
noncomputable def zik (q00 : Nat) (q07 : List Nat) (q01 : Nat) (q09 : List Nat) (q02 : Nat) (q08 : List Nat) (q03 : Nat) (q0d : List Nat) (q0g : Int) (q0i : Nat) (q0j : Nat) : Option (Bool) := zj5 q00 q07 q01 q09 q02 q08 q03 q0d q0g q0i q0j (fun c0_ => some c0_)
theorem zut {R R' : Type} (o : Option R → Option R') (h0 : o none = none) (q00 : Nat) (q07 : List Nat) (q01 : Nat) (q09 : List Nat) (q02 : Nat) (q08 : List Nat) (q03 : Nat) (q0d : List Nat) (q0g : Int) (q0i : Nat) (q0j : Nat) (k_ : Bool → Option R) : zj5 q00 q07 q01 q09 q02 q08 q03 q0d q0g q0i q0j (fun c0_ => o (k_ c0_)) = o (zj5 q00 q07 q01 q09 q02 q08 q03 q0d q0g q0i q0j k_) := by
  unfold zj5
  repeat (first | refine grd_out h0 ?_ | refine br_out ?_ ?_ | rfl | exact h0.symm)
noncomputable def zm2 (q00 : Nat) (q07 : List Nat) (q01 : Nat) (q09 : List Nat) (q02 : Nat) (q08 : List Nat) (q03 : Nat) (q0d : List Nat) (q0g : Int) (q0i : Nat) (q0j : Nat) : Bool := (zik q00 q07 q01 q09 q02 q08 q03 q0d q0g q0i q0j).isSome
noncomputable def zls (q00 : Nat) (q07 : List Nat) (q01 : Nat) (q09 : List Nat) (q02 : Nat) (q08 : List Nat) (q03 : Nat) (q0d : List Nat) (q0g : Int) (q0i : Nat) (q0j : Nat) : Bool := ((zik q00 q07 q01 q09 q02 q08 q03 q0d q0g q0i q0j).getD default)
theorem zwh {q00 : Nat} {q07 : List Nat} {q01 : Nat} {q09 : List Nat} {q02 : Nat} {q08 : List Nat} {q03 : Nat} {q0d : List Nat} {q0g : Int} {q0i : Nat} {q0j : Nat} {r : Bool} (h : zik q00 q07 q01 q09 q02 q08 q03 q0d q0g q0i q0j = some r) : zm2 q00 q07 q01 q09 q02 q08 q03 q0d q0g q0i q0j = true ∧ zls q00 q07 q01 q09 q02 q08 q03 q0d q0g q0i q0j = r := by
  unfold zm2 zls
  rw [h]
  exact ⟨rfl, rfl⟩
noncomputable def zce {R : Type} (x : Nat) (y : Nat) (k_ : Nat → Nat → Bool → Option R) : Option R := (grd (zfe 2 (pF [x, y] 0 (muN 2 1))) (br (bnot (zea 2 (pF [x, y] 0 (muN 2 1)))) (k_ 0 0 Bool.false) (k_ x y Bool.true)))
noncomputable def z95 (x : Nat) (y : Nat) : Option (Nat × Nat × Bool) := zce x y (fun c0_ c1_ c2_ => some (c0_, c1_, c2_))
theorem zpj {R R' : Type} (o : Option R → Option R') (h0 : o none = none) (x : Nat) (y : Nat) (k_ : Nat → Nat → Bool → Option R) : zce x y (fun c0_ c1_ c2_ => o (k_ c0_ c1_ c2_)) = o (zce x y k_) := by
  unfold zce
  repeat (first | refine grd_out h0 ?_ | refine br_out ?_ ?_ | rfl | exact h0.symm)
noncomputable def zec (x : Nat) (y : Nat) : Bool := (z95 x y).isSome
noncomputable def zdo (x : Nat) (y : Nat) : Nat := ((z95 x y).getD default).1
noncomputable def zdn (x : Nat) (y : Nat) : Nat := ((z95 x y).getD default).2.1
noncomputable def zdl (x : Nat) (y : Nat) : Bool := ((z95 x y).getD default).2.2
theorem zsw {x : Nat} {y : Nat} {r : Nat × Nat × Bool} (h : z95 x y = some r) : zec x y = true ∧ zdo x y = r.1 ∧ zdn x y = r.2.1 ∧ zdl x y = r.2.2 := by
  unfold zec zdo zdn zdl
  rw [h]
  exact ⟨rfl, rfl, rfl, rfl⟩
noncomputable def z9k {R : Type} (q04 : Nat) (q0a : List Nat) (q05 : Nat) (q0c : List Nat) (q06 : Nat) (q0b : List Nat) (q0e : Nat) (q0h : List Nat) (q0l : Int) (q0n : Nat) (q0m : Nat) (i : Int) (q15 : Nat) (k_ : Nat → Option R) : Option R := (grd (okIx i q0e) (grd (z8m q15) (k_ (fop BinOp.quo FloatKind.f32 (fop BinOp.quo FloatKind.f32 (fop BinOp.mul FloatKind.f32 (fOI FloatKind.f32 q0l) (fop BinOp.sub FloatKind.f32 q0m (gF q0h (ixO 0 i 3)))) (fop BinOp.mul FloatKind.f32 1073741824 (gF q0h (ixO 0 i 3)))) (fop BinOp.add FloatKind.f32 (fop BinOp.quo FloatKind.f32 (fop BinOp.mul FloatKind.f32 (fOI FloatKind.f32 q0l) (fop BinOp.sub FloatKind.f32 q0m (gF q0h (ixO 0 i 3)))) (fop BinOp.mul FloatKind.f32 1073741824 (gF q0h (ixO 0 i 3)))) (z63 q15))))))
noncomputable def z9i (q04 : Nat) (q0a : List Nat) (q05 : Nat) (q0c : List Nat) (q06 : Nat) (q0b : List Nat) (q0e : Nat) (q0h : List Nat) (q0l : Int) (q0n : Nat) (q0m : Nat) (i : Int) (q15 : Nat) : Option (Nat) := z9k q04 q0a q05 q0c q06 q0b q0e q0h q0l q0n q0m i q15 (fun c0_ => some c0_)
theorem zne {R R' : Type} (o : Option R → Option R') (h0 : o none = none) (q04 : Nat) (q0a : List Nat) (q05 : Nat) (q0c : List Nat) (q06 : Nat) (q0b : List Nat) (q0e : Nat) (q0h : List Nat) (q0l : Int) (q0n : Nat) (q0m : Nat) (i : Int) (q15 : Nat) (k_ : Nat → Option R) : z9k q04 q0a q05 q0c q06 q0b q0e q0h q0l q0n q0m i q15 (fun c0_ => o (k_ c0_)) = o (z9k q04 q0a q05 q0c q06 q0b q0e q0h q0l q0n q0m i q15 k_) := by
  unfold z9k
  repeat (first | refine grd_out h0 ?_ | refine br_out ?_ ?_ | rfl | exact h0.symm)
noncomputable def zdt (q04 : Nat) (q0a : List Nat) (q05 : Nat) (q0c : List Nat) (q06 : Nat) (q0b : List Nat) (q0e : Nat) (q0h : List Nat) (q0l : Int) (q0n : Nat) (q0m : Nat) (i : Int) (q15 : Nat) : Bool := (z9i q04 q0a q05 q0c q06 q0b q0e q0h q0l q0n q0m i q15).isSome
noncomputable def zak (q04 : Nat) (q0a : List Nat) (q05 : Nat) (q0c : List Nat) (q06 : Nat) (q0b : List Nat) (q0e : Nat) (q0h : List Nat) (q0l : Int) (q0n : Nat) (q0m : Nat) (i : Int) (q15 : Nat) : Nat := ((z9i q04 q0a q05 q0c q06 q0b q0e q0h q0l q0n q0m i q15).getD default)
theorem zot {q04 : Nat} {q0a : List Nat} {q05 : Nat} {q0c : List Nat} {q06 : Nat} {q0b : List Nat} {q0e : Nat} {q0h : List Nat} {q0l : Int} {q0n : Nat} {q0m : Nat} {i : Int} {q15 : Nat} {r : Nat} (h : z9i q04 q0a q05 q0c q06 q0b q0e q0h q0l q0n q0m i q15 = some r) : zdt q04 q0a q05 q0c q06 q0b q0e q0h q0l q0n q0m i q15 = true ∧ zak q04 q0a q05 q0c q06 q0b q0e q0h q0l q0n q0m i q15 = r := by
  unfold zdt zak
  rw [h]
  exact ⟨rfl, rfl⟩
noncomputable def zc1 {R : Type} (q04 : Nat) (q0a : List Nat) (q05 : Nat) (q0c : List Nat) (q06 : Nat) (q0b : List Nat) (q0e : Nat) (q0h : List Nat) (q0l : Int) (q0n : Nat) (q0m : Nat) (i : Int) (k_ : Bool → Option R) : Option R := (grd (zm2 q04 (pF q0a 0 (muN q04 1)) q05 (pF q0c 0 (muN q05 1)) q06 (pF q0b 0 (muN q06 1)) q0e (pF q0h 0 (muN q0e 3)) q0l q0n q0m) (br (zls q04 (pF q0a 0 (muN q04 1)) q05 (pF q0c 0 (muN q05 1)) q06 (pF q0b 0 (muN q06 1)) q0e (pF q0h 0 (muN q0e 3)) q0l q0n q0m) (grd (zl1 i 0 (subI IntKind.i64 (Int.ofNat q0e) 1)) (k_ (zjw i 0 (subI IntKind.i64 (Int.ofNat q0e) 1)))) (k_ Bool.false)))
noncomputable def zbr (q04 : Nat) (q0a : List Nat) (q05 : Nat) (q0c : List Nat) (q06 : Nat) (q0b : List Nat) (q0e : Nat) (q0h : List Nat) (q0l : Int) (q0n : Nat) (q0m : Nat) (i : Int) : Option (Bool) := zc1 q04 q0a q05 q0c q06 q0b q0e q0h q0l q0n q0m i (fun c0_ => some c0_)
theorem zq5 {R R' : Type} (o : Option R → Option R') (h0 : o none = none) (q04 : Nat) (q0a : List Nat) (q05 : Nat) (q0c : List Nat) (q06 : Nat) (q0b : List Nat) (q0e : Nat) (q0h : List Nat) (q0l : Int) (q0n : Nat) (q0m : Nat) (i : Int) (k_ : Bool → Option R) : zc1 q04 q0a q05 q0c q06 q0b q0e q0h q0l q0n q0m i (fun c0_ => o (k_ c0_)) = o (zc1 q04 q0a q05 q0c q06 q0b q0e q0h q0l q0n q0m i k_) := by
  unfold zc1
  repeat (first | refine grd_out h0 ?_ | refine br_out ?_ ?_ | rfl | exact h0.symm)
noncomputable def zib (q04 : Nat) (q0a : List Nat) (q05 : Nat) (q0c : List Nat) (q06 : Nat) (q0b : List Nat) (q0e : Nat) (q0h : List Nat) (q0l : Int) (q0n : Nat) (q0m : Nat) (i : Int) : Bool := (zbr q04 q0a q05 q0c q06 q0b q0e q0h q0l q0n q0m i).isSome
noncomputable def zh6 (q04 : Nat) (q0a : List Nat) (q05 : Nat) (q0c : List Nat) (q06 : Nat) (q0b : List Nat) (q0e : Nat) (q0h : List Nat) (q0l : Int) (q0n : Nat) (q0m : Nat) (i : Int) : Bool := ((zbr q04 q0a q05 q0c q06 q0b q0e q0h q0l q0n q0m i).getD default)
theorem zsk {q04 : Nat} {q0a : List Nat} {q05 : Nat} {q0c : List Nat} {q06 : Nat} {q0b : List Nat} {q0e : Nat} {q0h : List Nat} {q0l : Int} {q0n : Nat} {q0m : Nat} {i : Int} {r : Bool} (h : zbr q04 q0a q05 q0c q06 q0b q0e q0h q0l q0n q0m i = some r) : zib q04 q0a q05 q0c q06 q0b q0e q0h q0l q0n q0m i = true ∧ zh6 q04 q0a q05 q0c q06 q0b q0e q0h q0l q0n q0m i = r := by
  unfold zib zh6
  rw [h]
  exact ⟨rfl, rfl⟩
noncomputable def z1g {R : Type} (sn : Nat) (t7 : Int) (b0 : List Nat) (b4 : Nat) (t8 : Int) (kn_ : Int → Option R) (k0_ : Int → Option R) (k1_ : Int → Bool → Option R) : Option R := (br (ltI t8 t7) (grd (okIx t8 sn) (br (fcmp BinOp.gtr FloatKind.f32 (gF b0 (ixO 0 t8 1)) b4) (k0_ t8) (kn_ (addI IntKind.i64 t8 1)))) (k1_ t8 (ltI t8 t7)))
theorem zfd {R R' : Type} (o : Option R → Option R') (h0 : o none = none) (sn : Nat) (t7 : Int) (b0 : List Nat) (b4 : Nat) (t8 : Int) (kn_ : Int → Option R) (k0_ : Int → Option R) (k1_ : Int → Bool → Option R) : z1g sn t7 b0 b4 t8 (fun t8' => o (kn_ t8')) (fun c0_ => o (k0_ c0_)) (fun c0_ c1_ => o (k1_ c0_ c1_)) = o (z1g sn t7 b0 b4 t8 kn_ k0_ k1_) := by
  unfold z1g
  repeat (first | refine grd_out h0 ?_ | refine br_out ?_ ?_ | rfl | exact h0.symm)
noncomputable def z0c (sn : Nat) (t7 : Int) (b0 : List Nat) (b4 : Nat) : Nat → Int → Option ((Int) ⊕ (Int × Bool))
  | 0, _ => none
  | n + 1, t8 => z1g sn t7 b0 b4  t8  (fun t8' => z0c sn t7 b0 b4 n t8') (fun c0_ => some (Sum.inl c0_)) (fun c0_ c1_ => some (Sum.inr (c0_, c1_)))
theorem z9d (sn : Nat) (t7 : Int) (b0 : List Nat) (b4 : Nat) (n : Nat) (t8 : Int) : z0c sn t7 b0 b4 (n + 1) t8 = z1g sn t7 b0 b4  t8  (fun t8' => z0c sn t7 b0 b4 n t8') (fun c0_ => some (Sum.inl c0_)) (fun c0_ c1_ => some (Sum.inr (c0_, c1_))) := rfl
noncomputable def z3x (sn : Nat) (t7 : Int) (b0 : List Nat) (b4 : Nat) (t8 : Int) : Bool := (z0c sn t7 b0 b4 big t8).isSome
noncomputable def z3r (sn : Nat) (t7 : Int) (b0 : List Nat) (b4 : Nat) (t8 : Int) : Bool := oL (z0c sn t7 b0 b4 big t8)
noncomputable def z0s (sn : Nat) (t7 : Int) (b0 : List Nat) (b4 : Nat) (t8 : Int) : Int := ((tL (z0c sn t7 b0 b4 big t8)).getD default)
noncomputable def z7t (sn : Nat) (t7 : Int) (b0 : List Nat) (b4 : Nat) (t8 : Int) : Int := ((tR (z0c sn t7 b0 b4 big t8)).getD default).1
noncomputable def z7v (sn : Nat) (t7 : Int) (b0 : List Nat) (b4 : Nat) (t8 : Int) : Bool := ((tR (z0c sn t7 b0 b4 big t8)).getD default).2
theorem zfu {sn : Nat} {t7 : Int} {b0 : List Nat} {b4 : Nat} {t8 : Int} {m : Nat} {r : Int} (hm : m = big) (h : z0c sn t7 b0 b4 m t8 = some (Sum.inl r)) : z3x sn t7 b0 b4 t8 = true ∧ z3r sn t7 b0 b4 t8 = true ∧ z0s sn t7 b0 b4 t8 = r := by
  subst hm
  unfold z3x z3r z0s
  rw [h]
  exact ⟨rfl, rfl, rfl⟩
theorem zft {sn : Nat} {t7 : Int} {b0 : List Nat} {b4 : Nat} {t8 : Int} {m : Nat} {r : Int × Bool} (hm : m = big) (h : z0c sn t7 b0 b4 m t8 = some (Sum.inr r)) : z3x sn t7 b0 b4 t8 = true ∧ z3r sn t7 b0 b4 t8 = false ∧ z7t sn t7 b0 b4 t8 = r.1 ∧ z7v sn t7 b0 b4 t8 = r.2 := by
  subst hm
  unfold z3x z3r z7t z7v
  rw [h]
  exact ⟨rfl, rfl, rfl, rfl⟩
noncomputable def z8q {R : Type} (t8 : Nat) (b0 : List Nat) (q1e : Nat) (t10 : Int) (kn_ : Int → Option R) (k0_ : Int → Bool → Option R) : Option R := (br (leI 0 t10) (grd (okIx t10 q1e) (br (fcmp BinOp.gtr FloatKind.f32 (gF b0 (ixO 0 t10 1)) t8) (kn_ (subI IntKind.i64 t10 1)) (k0_ t10 (fcmp BinOp.gtr FloatKind.f32 (gF b0 (ixO 0 t10 1)) t8)))) (k0_ t10 Bool.false))
theorem zpk {R R' : Type} (o : Option R → Option R') (h0 : o none = none) (t8 : Nat) (b0 : List Nat) (q1e : Nat) (t10 : Int) (kn_ : Int → Option R) (k0_ : Int → Bool → Option R) : z8q t8 b0 q1e t10 (fun t10' => o (kn_ t10')) (fun c0_ c1_ => o (k0_ c0_ c1_)) = o (z8q t8 b0 q1e t10 kn_ k0_) := by
  unfold z8q
  repeat (first | refine grd_out h0 ?_ | refine br_out ?_ ?_ | rfl | exact h0.symm)
noncomputable def z6t (t8 : Nat) (b0 : List Nat) (q1e : Nat) : Nat → Int → Option ((Int × Bool))
  | 0, _ => none
  | n + 1, t10 => z8q t8 b0 q1e  t10  (fun t10' => z6t t8 b0 q1e n t10') (fun c0_ c1_ => some (c0_, c1_))
theorem zlm (t8 : Nat) (b0 : List Nat) (q1e : Nat) (n : Nat) (t10 : Int) : z6t t8 b0 q1e (n + 1) t10 = z8q t8 b0 q1e  t10  (fun t10' => z6t t8 b0 q1e n t10') (fun c0_ c1_ => some (c0_, c1_)) := rfl
noncomputable def zhz (t8 : Nat) (b0 : List Nat) (q1e : Nat) (t10 : Int) : Bool := (z6t t8 b0 q1e big t10).isSome
noncomputable def z00 (t8 : Nat) (b0 : List Nat) (q1e : Nat) (t10 : Int) : Int := ((z6t t8 b0 q1e big t10).getD default).1
noncomputable def zjk (t8 : Nat) (b0 : List Nat) (q1e : Nat) (t10 : Int) : Bool := ((z6t t8 b0 q1e big t10).getD default).2
theorem zmg {t8 : Nat} {b0 : List Nat} {q1e : Nat} {t10 : Int} {m : Nat} {r : Int × Bool} (hm : m = big) (h : z6t t8 b0 q1e m t10 = some r) : zhz t8 b0 q1e t10 = true ∧ z00 t8 b0 q1e t10 = r.1 ∧ zjk t8 b0 q1e t10 = r.2 := by
  subst hm
  unfold zhz z00 zjk
  rw [h]
  exact ⟨rfl, rfl, rfl⟩
noncomputable def zgl {R : Type} (q04 : Nat) (q0a : List Nat) (q05 : Nat) (q0c : List Nat) (q06 : Nat) (q0b : List Nat) (q0e : Nat) (q0h : List Nat) (q0l : Int) (q0n : Nat) (q0m : Nat) (i : Int) (q13 : Nat) (q0u : Nat) (q0o : Nat) (k_ : Bool → Option R) : Option R := (grd (zib q04 (pF q0a 0 (muN q04 1)) q05 (pF q0c 0 (muN q05 1)) q06 (pF q0b 0 (muN q06 1)) q0e (pF q0h 0 (muN q0e 3)) q0l q0n q0m i) (br (zh6 q04 (pF q0a 0 (muN q04 1)) q05 (pF q0c 0 (muN q05 1)) q06 (pF q0b 0 (muN q06 1)) q0e (pF q0h 0 (muN q0e 3)) q0l q0n q0m i) (grd (zbm q13) (br (zar q13) (grd (zbm q0u) (br (zar q0u) (grd (z4r q0o) (br (z4c q0o) (grd (zkk q04 (pF q0a 0 (muN q04 1)) q05 (pF q0c 0 (muN q05 1)) q06 (pF q0b 0 (muN q06 1)) q0e (pF q0h 0 (muN q0e 3)) q0l q0n q0m i q0o) (k_ (zjv q04 (pF q0a 0 (muN q04 1)) q05 (pF q0c 0 (muN q05 1)) q06 (pF q0b 0 (muN q06 1)) q0e (pF q0h 0 (muN q0e 3)) q0l q0n q0m i q0o))) (k_ Bool.false))) (k_ Bool.false))) (k_ Bool.false))) (k_ Bool.false)))
noncomputable def zgk (q04 : Nat) (q0a : List Nat) (q05 : Nat) (q0c : List Nat) (q06 : Nat) (q0b : List Nat) (q0e : Nat) (q0h : List Nat) (q0l : Int) (q0n : Nat) (q0m : Nat) (i : Int) (q13 : Nat) (q0u : Nat) (q0o : Nat) : Option (Bool) := zgl q04 q0a q05 q0c q06 q0b q0e q0h q0l q0n q0m i q13 q0u q0o (fun c0_ => some c0_)
theorem zto {R R' : Type} (o : Option R → Option R') (h0 : o none = none) (q04 : Nat) (q0a : List Nat) (q05 : Nat) (q0c : List Nat) (q06 : Nat) (q0b : List Nat) (q0e : Nat) (q0h : List Nat) (q0l : Int) (q0n : Nat) (q0m : Nat) (i : Int) (q13 : Nat) (q0u : Nat) (q0o : Nat) (k_ : Bool → Option R) : zgl q04 q0a q05 q0c q06 q0b q0e q0h q0l q0n q0m i q13 q0u q0o (fun c0_ => o (k_ c0_)) = o (zgl q04 q0a q05 q0c q06 q0b q0e q0h q0l q0n q0m i q13 q0u q0o k_) := by
  unfold zgl
  repeat (first | refine grd_out h0 ?_ | refine br_out ?_ ?_ | rfl | exact h0.symm)
noncomputable def zlt (q04 : Nat) (q0a : List Nat) (q05 : Nat) (q0c : List Nat) (q06 : Nat) (q0b : List Nat) (q0e : Nat) (q0h : List Nat) (q0l : Int) (q0n : Nat) (q0m : Nat) (i : Int) (q13 : Nat) (q0u : Nat) (q0o : Nat) : Bool := (zgk q04 q0a q05 q0c q06 q0b q0e q0h q0l q0n q0m i q13 q0u q0o).isSome
noncomputable def zl4 (q04 : Nat) (q0a : List Nat) (q05 : Nat) (q0c : List Nat) (q06 : Nat) (q0b : List Nat) (q0e : Nat) (q0h : List Nat) (q0l : Int) (q0n : Nat) (q0m : Nat) (i : Int) (q13 : Nat) (q0u : Nat) (q0o : Nat) : Bool := ((zgk q04 q0a q05 q0c q06 q0b q0e q0h q0l q0n q0m i q13 q0u q0o).getD default)
theorem zw9 {q04 : Nat} {q0a : List Nat} {q05 : Nat} {q0c : List Nat} {q06 : Nat} {q0b : List Nat} {q0e : Nat} {q0h : List Nat} {q0l : Int} {q0n : Nat} {q0m : Nat} {i : Int} {q13 : Nat} {q0u : Nat} {q0o : Nat} {r : Bool} (h : zgk q04 q0a q05 q0c q06 q0b q0e q0h q0l q0n q0m i q13 q0u q0o = some r) : zlt q04 q0a q05 q0c q06 q0b q0e q0h q0l q0n q0m i q13 q0u q0o = true ∧ zl4 q04 q0a q05 q0c q06 q0b q0e q0h q0l q0n q0m i q13 q0u q0o = r := by
  unfold zlt zl4
  rw [h]
  exact ⟨rfl, rfl⟩
noncomputable def z8o {R : Type} (q0f : Nat) (q0k : List Nat) (q0s : Nat) (q0y : List Nat) (q0t : Nat) (q0z : List Nat) (x1 : Nat) (k_ : Int → Int → Nat → Nat → Nat → Option R) : Option R := (grd (zjq x1) (grd (z3x q0f (Int.ofNat q0f) q0k (z3a x1) 0) (br (z3r q0f (Int.ofNat q0f) q0k (z3a x1) 0) (br (eqI (z0s q0f (Int.ofNat q0f) q0k (z3a x1) 0) 0) (grd (okIx (subI IntKind.i64 (Int.ofNat q0f) 1) q0f) (grd (okIx 0 q0f) (k_ (subI IntKind.i64 (Int.ofNat q0f) 1) 0 (fop BinOp.sub FloatKind.f32 (gF q0k (ixO 0 (subI IntKind.i64 (Int.ofNat q0f) 1) 1)) 1065353216) (gF q0k (ixO 0 0 1)) (z3a x1)))) (br (ltI (z0s q0f (Int.ofNat q0f) q0k (z3a x1) 0) 0) (grd (okIx (subI IntKind.i64 (Int.ofNat q0f) 1) q0f) (grd (okIx 0 q0f) (k_ (subI IntKind.i64 (Int.ofNat q0f) 1) 0 (gF q0k (ixO 0 (subI IntKind.i64 (Int.ofNat q0f) 1) 1)) (fop BinOp.add FloatKind.f32 (gF q0k (ixO 0 0 1)) 1065353216) (z3a x1)))) (grd (okIx (subI IntKind.i64 (z0s q0f (Int.ofNat q0f) q0k (z3a x1) 0) 1) q0f) (grd (okIx (z0s q0f (Int.ofNat q0f) q0k (z3a x1) 0) q0f) (k_ (subI IntKind.i64 (z0s q0f (Int.ofNat q0f) q0k (z3a x1) 0) 1) (z0s q0f (Int.ofNat q0f) q0k (z3a x1) 0) (gF q0k (ixO 0 (subI IntKind.i64 (z0s q0f (Int.ofNat q0f) q0k (z3a x1) 0) 1) 1)) (gF q0k (ixO 0 (z0s q0f (Int.ofNat q0f) q0k (z3a x1) 0) 1)) (z3a x1)))))) (br (eqI (Int.negSucc 0) 0) (grd (okIx (subI IntKind.i64 (Int.ofNat q0f) 1) q0f) (grd (okIx 0 q0f) (k_ (subI IntKind.i64 (Int.ofNat q0f) 1) 0 (fop BinOp.sub FloatKind.f32 (gF q0k (ixO 0 (subI IntKind.i64 (Int.ofNat q0f) 1) 1)) 1065353216) (gF q0k (ixO 0 0 1)) (z3a x1)))) (br (ltI (Int.negSucc 0) 0) (grd (okIx (subI IntKind.i64 (Int.ofNat q0f) 1) q0f) (grd (okIx 0 q0f) (k_ (subI IntKind.i64 (Int.ofNat q0f) 1) 0 (gF q0k (ixO 0 (subI IntKind.i64 (Int.ofNat q0f) 1) 1)) (fop BinOp.add FloatKind.f32 (gF q0k (ixO 0 0 1)) 1065353216) (z3a x1)))) (grd (okIx (subI IntKind.i64 (Int.negSucc 0) 1) q0f) (grd (okIx (Int.negSucc 0) q0f) (k_ (subI IntKind.i64 (Int.negSucc 0) 1) (Int.negSucc 0) (gF q0k (ixO 0 (subI IntKind.i64 (Int.negSucc 0) 1) 1)) (gF q0k (ixO 0 (Int.negSucc 0) 1)) (z3a x1)))))))))
noncomputable def z5x (q0f : Nat) (q0k : List Nat) (q0s : Nat) (q0y : List Nat) (q0t : Nat) (q0z : List Nat) (x1 : Nat) : Option (Int × Int × Nat × Nat × Nat) := z8o q0f q0k q0s q0y q0t q0z x1 (fun c0_ c1_ c2_ c3_ c4_ => some (c0_, c1_, c2_, c3_, c4_))
theorem zms {R R' : Type} (o : Option R → Option R') (h0 : o none = none) (q0f : Nat) (q0k : List Nat) (q0s : Nat) (q0y : List Nat) (q0t : Nat) (q0z : List Nat) (x1 : Nat) (k_ : Int → Int → Nat → Nat → Nat → Option R) : z8o q0f q0k q0s q0y q0t q0z x1 (fun c0_ c1_ c2_ c3_ c4_ => o (k_ c0_ c1_ c2_ c3_ c4_)) = o (z8o q0f q0k q0s q0y q0t q0z x1 k_) := by
  unfold z8o
  repeat (first | refine grd_out h0 ?_ | refine br_out ?_ ?_ | rfl | exact h0.symm)
noncomputable def zdk (q0f : Nat) (q0k : List Nat) (q0s : Nat) (q0y : List Nat) (q0t : Nat) (q0z : List Nat) (x1 : Nat) : Bool := (z5x q0f q0k q0s q0y q0t q0z x1).isSome
noncomputable def z6j (q0f : Nat) (q0k : List Nat) (q0s : Nat) (q0y : List Nat) (q0t : Nat) (q0z : List Nat) (x1 : Nat) : Int := ((z5x q0f q0k q0s q0y q0t q0z x1).getD default).1
noncomputable def z6i (q0f : Nat) (q0k : List Nat) (q0s : Nat) (q0y : List Nat) (q0t : Nat) (q0z : List Nat) (x1 : Nat) : Int := ((z5x q0f q0k q0s q0y q0t q0z x1).getD default).2.1
noncomputable def z79 (q0f : Nat) (q0k : List Nat) (q0s : Nat) (q0y : List Nat) (q0t : Nat) (q0z : List Nat) (x1 : Nat) : Nat := ((z5x q0f q0k q0s q0y q0t q0z x1).getD default).2.2.1
noncomputable def z8v (q0f : Nat) (q0k : List Nat) (q0s : Nat) (q0y : List Nat) (q0t : Nat) (q0z : List Nat) (x1 : Nat) : Nat := ((z5x q0f q0k q0s q0y q0t q0z x1).getD default).2.2.2.1
noncomputable def za2 (q0f : Nat) (q0k : List Nat) (q0s : Nat) (q0y : List Nat) (q0t : Nat) (q0z : List Nat) (x1 : Nat) : Nat := ((z5x q0f q0k q0s q0y q0t q0z x1).getD default).2.2.2.2
theorem zog {q0f : Nat} {q0k : List Nat} {q0s : Nat} {q0y : List Nat} {q0t : Nat} {q0z : List Nat} {x1 : Nat} {r : Int × Int × Nat × Nat × Nat} (h : z5x q0f q0k q0s q0y q0t q0z x1 = some r) : zdk q0f q0k q0s q0y q0t q0z x1 = true ∧ z6j q0f q0k q0s q0y q0t q0z x1 = r.1 ∧ z6i q0f q0k q0s q0y q0t q0z x1 = r.2.1 ∧ z79 q0f q0k q0s q0y q0t q0z x1 = r.2.2.1 ∧ z8v q0f q0k q0s q0y q0t q0z x1 = r.2.2.2.1 ∧ za2 q0f q0k q0s q0y q0t q0z x1 = r.2.2.2.2 := by
  unfold zdk z6j z6i z79 z8v za2
  rw [h]
  exact ⟨rfl, rfl, rfl, rfl, rfl, rfl⟩
noncomputable def zcv {R : Type} (q0f : Nat) (q0k : List Nat) (q0s : Nat) (q0y : List Nat) (q0t : Nat) (q0z : List Nat) (x1 : Nat) (k_ : Int → Int → Nat → Nat → Option R) : Option R := (grd (zla x1) (grd (zhz (z01 x1) q0k q0f (subI IntKind.i64 (Int.ofNat q0f) 1)) (br (ltI (z00 (z01 x1) q0k q0f (subI IntKind.i64 (Int.ofNat q0f) 1)) 0) (grd (okIx (subI IntKind.i64 (Int.ofNat q0f) 1) q0f) (grd (okIx 0 q0f) (br (eqI 0 0) (br (fcmp BinOp.lss FloatKind.f32 (z01 x1) (gF q0k (ixO 0 0 1))) (br (fcmp BinOp.eql FloatKind.f32 (fop BinOp.sub FloatKind.f32 (gF q0k (ixO 0 0 1)) (fop BinOp.sub FloatKind.f32 (gF q0k (ixO 0 (subI IntKind.i64 (Int.ofNat q0f) 1) 1)) 1065353216)) 0) (k_ (subI IntKind.i64 (Int.ofNat q0f) 1) 0 0 (fop BinOp.sub FloatKind.f32 (gF q0k (ixO 0 0 1)) (fop BinOp.sub FloatKind.f32 (gF q0k (ixO 0 (subI IntKind.i64 (Int.ofNat q0f) 1) 1)) 1065353216))) (k_ (subI IntKind.i64 (Int.ofNat q0f) 1) 0 (fop BinOp.quo FloatKind.f32 (fop BinOp.sub FloatKind.f32 (z01 x1) (fop BinOp.sub FloatKind.f32 (gF q0k (ixO 0 (subI IntKind.i64 (Int.ofNat q0f) 1) 1)) 1065353216)) (fop BinOp.sub FloatKind.f32 (gF q0k (ixO 0 0 1)) (fop BinOp.sub FloatKind.f32 (gF q0k (ixO 0 (subI IntKind.i64 (Int.ofNat q0f) 1) 1)) 1065353216))) (fop BinOp.sub FloatKind.f32 (gF q0k (ixO 0 0 1)) (fop BinOp.sub FloatKind.f32 (gF q0k (ixO 0 (subI IntKind.i64 (Int.ofNat q0f) 1) 1)) 1065353216)))) (br (eqI 0 0) (br (fcmp BinOp.eql FloatKind.f32 (fop BinOp.sub FloatKind.f32 (fop BinOp.add FloatKind.f32 (gF q0k (ixO 0 0 1)) 1065353216) (gF q0k (ixO 0 (subI IntKind.i64 (Int.ofNat q0f) 1) 1))) 0) (k_ (subI IntKind.i64 (Int.ofNat q0f) 1) 0 0 (fop BinOp.sub FloatKind.f32 (fop BinOp.add FloatKind.f32 (gF q0k (ixO 0 0 1)) 1065353216) (gF q0k (ixO 0 (subI IntKind.i64 (Int.ofNat q0f) 1) 1)))) (k_ (subI IntKind.i64 (Int.ofNat q0f) 1) 0 (fop BinOp.quo FloatKind.f32 (fop BinOp.sub FloatKind.f32 (z01 x1) (gF q0k (ixO 0 (subI IntKind.i64 (Int.ofNat q0f) 1) 1))) (fop BinOp.sub FloatKind.f32 (fop BinOp.add FloatKind.f32 (gF q0k (ixO 0 0 1)) 1065353216) (gF q0k (ixO 0 (subI IntKind.i64 (Int.ofNat q0f) 1) 1)))) (fop BinOp.sub FloatKind.f32 (fop BinOp.add FloatKind.f32 (gF q0k (ixO 0 0 1)) 1065353216) (gF q0k (ixO 0 (subI IntKind.i64 (Int.ofNat q0f) 1) 1))))) (br (fcmp BinOp.eql FloatKind.f32 (fop BinOp.sub FloatKind.f32 (gF q0k (ixO 0 0 1)) (gF q0k (ixO 0 (subI IntKind.i64 (Int.ofNat q0f) 1) 1))) 0) (k_ (subI IntKind.i64 (Int.ofNat q0f) 1) 0 0 (fop BinOp.sub FloatKind.f32 (gF q0k (ixO 0 0 1)) (gF q0k (ixO 0 (subI IntKind.i64 (Int.ofNat q0f) 1) 1)))) (k_ (subI IntKind.i64 (Int.ofNat q0f) 1) 0 (fop BinOp.quo FloatKind.f32 (fop BinOp.sub FloatKind.f32 (z01 x1) (gF q0k (ixO 0 (subI IntKind.i64 (Int.ofNat q0f) 1) 1))) (fop BinOp.sub FloatKind.f32 (gF q0k (ixO 0 0 1)) (gF q0k (ixO 0 (subI IntKind.i64 (Int.ofNat q0f) 1) 1)))) (fop BinOp.sub FloatKind.f32 (gF q0k (ixO 0 0 1)) (gF q0k (ixO 0 (subI IntKind.i64 (Int.ofNat q0f) 1) 1))))))) (br (eqI 0 0) (br (fcmp BinOp.eql FloatKind.f32 (fop BinOp.sub FloatKind.f32 (fop BinOp.add FloatKind.f32 (gF q0k (ixO 0 0 1)) 1065353216) (gF q0k (ixO 0 (subI IntKind.i64 (Int.ofNat q0f) 1) 1))) 0) (k_ (subI IntKind.i64 (Int.ofNat q0f) 1) 0 0 (fop BinOp.sub FloatKind.f32 (fop BinOp.add FloatKind.f32 (gF q0k (ixO 0 0 1)) 1065353216) (gF q0k (ixO 0 (subI IntKind.i64 (Int.ofNat q0f) 1) 1)))) (k_ (subI IntKind.i64 (Int.ofNat q0f) 1) 0 (fop BinOp.quo FloatKind.f32 (fop BinOp.sub FloatKind.f32 (z01 x1) (gF q0k (ixO 0 (subI IntKind.i64 (Int.ofNat q0f) 1) 1))) (fop BinOp.sub FloatKind.f32 (fop BinOp.add FloatKind.f32 (gF q0k (ixO 0 0 1)) 1065353216) (gF q0k (ixO 0 (subI IntKind.i64 (Int.ofNat q0f) 1) 1)))) (fop BinOp.sub FloatKind.f32 (fop BinOp.add FloatKind.f32 (gF q0k (ixO 0 0 1)) 1065353216) (gF q0k (ixO 0 (subI IntKind.i64 (Int.ofNat q0f) 1) 1))))) (br (fcmp BinOp.eql FloatKind.f32 (fop BinOp.sub FloatKind.f32 (gF q0k (ixO 0 0 1)) (gF q0k (ixO 0 (subI IntKind.i64 (Int.ofNat q0f) 1) 1))) 0) (k_ (subI IntKind.i64 (Int.ofNat q0f) 1) 0 0 (fop BinOp.sub FloatKind.f32 (gF q0k (ixO 0 0 1)) (gF q0k (ixO 0 (subI IntKind.i64 (Int.ofNat q0f) 1) 1)))) (k_ (subI IntKind.i64 (Int.ofNat q0f) 1) 0 (fop BinOp.quo FloatKind.f32 (fop BinOp.sub FloatKind.f32 (z01 x1) (gF q0k (ixO 0 (subI IntKind.i64 (Int.ofNat q0f) 1) 1))) (fop BinOp.sub FloatKind.f32 (gF q0k (ixO 0 0 1)) (gF q0k (ixO 0 (subI IntKind.i64 (Int.ofNat q0f) 1) 1)))) (fop BinOp.sub FloatKind.f32 (gF q0k (ixO 0 0 1)) (gF q0k (ixO 0 (subI IntKind.i64 (Int.ofNat q0f) 1) 1))))))))) (br (eqI (addI IntKind.i64 (z00 (z01 x1) q0k q0f (subI IntKind.i64 (Int.ofNat q0f) 1)) 1) (Int.ofNat q0f)) (grd (okIx (z00 (z01 x1) q0k q0f (subI IntKind.i64 (Int.ofNat q0f) 1)) q0f) (grd (okIx 0 q0f) (br (eqI 0 0) (br (fcmp BinOp.lss FloatKind.f32 (z01 x1) (gF q0k (ixO 0 0 1))) (br (fcmp BinOp.eql FloatKind.f32 (fop BinOp.sub FloatKind.f32 (gF q0k (ixO 0 0 1)) (fop BinOp.sub FloatKind.f32 (gF q0k (ixO 0 (z00 (z01 x1) q0k q0f (subI IntKind.i64 (Int.ofNat q0f) 1)) 1)) 1065353216)) 0) (k_ (z00 (z01 x1) q0k q0f (subI IntKind.i64 (Int.ofNat q0f) 1)) 0 0 (fop BinOp.sub FloatKind.f32 (gF q0k (ixO 0 0 1)) (fop BinOp.sub FloatKind.f32 (gF q0k (ixO 0 (z00 (z01 x1) q0k q0f (subI IntKind.i64 (Int.ofNat q0f) 1)) 1)) 1065353216))) (k_ (z00 (z01 x1) q0k q0f (subI IntKind.i64 (Int.ofNat q0f) 1)) 0 (fop BinOp.quo FloatKind.f32 (fop BinOp.sub FloatKind.f32 (z01 x1) (fop BinOp.sub FloatKind.f32 (gF q0k (ixO 0 (z00 (z01 x1) q0k q0f (subI IntKind.i64 (Int.ofNat q0f) 1)) 1)) 1065353216)) (fop BinOp.sub FloatKind.f32 (gF q0k (ixO 0 0 1)) (fop BinOp.sub FloatKind.f32 (gF q0k (ixO 0 (z00 (z01 x1) q0k q0f (subI IntKind.i64 (Int.ofNat q0f) 1)) 1)) 1065353216))) (fop BinOp.sub FloatKind.f32 (gF q0k (ixO 0 0 1)) (fop BinOp.sub FloatKind.f32 (gF q0k (ixO 0 (z00 (z01 x1) q0k q0f (subI IntKind.i64 (Int.ofNat q0f) 1)) 1)) 1065353216)))) (br (eqI 0 0) (br (fcmp BinOp.eql FloatKind.f32 (fop BinOp.sub FloatKind.f32 (fop BinOp.add FloatKind.f32 (gF q0k (ixO 0 0 1)) 1065353216) (gF q0k (ixO 0 (z00 (z01 x1) q0k q0f (subI IntKind.i64 (Int.ofNat q0f) 1)) 1))) 0) (k_ (z00 (z01 x1) q0k q0f (subI IntKind.i64 (Int.ofNat q0f) 1)) 0 0 (fop BinOp.sub FloatKind.f32 (fop BinOp.add FloatKind.f32 (gF q0k (ixO 0 0 1)) 1065353216) (gF q0k (ixO 0 (z00 (z01 x1) q0k q0f (subI IntKind.i64 (Int.ofNat q0f) 1)) 1)))) (k_ (z00 (z01 x1) q0k q0f (subI IntKind.i64 (Int.ofNat q0f) 1)) 0 (fop BinOp.quo FloatKind.f32 (fop BinOp.sub FloatKind.f32 (z01 x1) (gF q0k (ixO 0 (z00 (z01 x1) q0k q0f (subI IntKind.i64 (Int.ofNat q0f) 1)) 1))) (fop BinOp.sub FloatKind.f32 (fop BinOp.add FloatKind.f32 (gF q0k (ixO 0 0 1)) 1065353216) (gF q0k (ixO 0 (z00 (z01 x1) q0k q0f (subI IntKind.i64 (Int.ofNat q0f) 1)) 1)))) (fop BinOp.sub FloatKind.f32 (fop BinOp.add FloatKind.f32 (gF q0k (ixO 0 0 1)) 1065353216) (gF q0k (ixO 0 (z00 (z01 x1) q0k q0f (subI IntKind.i64 (Int.ofNat q0f) 1)) 1))))) (br (fcmp BinOp.eql FloatKind.f32 (fop BinOp.sub FloatKind.f32 (gF q0k (ixO 0 0 1)) (gF q0k (ixO 0 (z00 (z01 x1) q0k q0f (subI IntKind.i64 (Int.ofNat q0f) 1)) 1))) 0) (k_ (z00 (z01 x1) q0k q0f (subI IntKind.i64 (Int.ofNat q0f) 1)) 0 0 (fop BinOp.sub FloatKind.f32 (gF q0k (ixO 0 0 1)) (gF q0k (ixO 0 (z00 (z01 x1) q0k q0f (subI IntKind.i64 (Int.ofNat q0f) 1)) 1)))) (k_ (z00 (z01 x1) q0k q0f (subI IntKind.i64 (Int.ofNat q0f) 1)) 0 (fop BinOp.quo FloatKind.f32 (fop BinOp.sub FloatKind.f32 (z01 x1) (gF q0k (ixO 0 (z00 (z01 x1) q0k q0f (subI IntKind.i64 (Int.ofNat q0f) 1)) 1))) (fop BinOp.sub FloatKind.f32 (gF q0k (ixO 0 0 1)) (gF q0k (ixO 0 (z00 (z01 x1) q0k q0f (subI IntKind.i64 (Int.ofNat q0f) 1)) 1)))) (fop BinOp.sub FloatKind.f32 (gF q0k (ixO 0 0 1)) (gF q0k (ixO 0 (z00 (z01 x1) q0k q0f (subI IntKind.i64 (Int.ofNat q0f) 1)) 1))))))) (br (eqI 0 0) (br (fcmp BinOp.eql FloatKind.f32 (fop BinOp.sub FloatKind.f32 (fop BinOp.add FloatKind.f32 (gF q0k (ixO 0 0 1)) 1065353216) (gF q0k (ixO 0 (z00 (z01 x1) q0k q0f (subI IntKind.i64 (Int.ofNat q0f) 1)) 1))) 0) (k_ (z00 (z01 x1) q0k q0f (subI IntKind.i64 (Int.ofNat q0f) 1)) 0 0 (fop BinOp.sub FloatKind.f32 (fop BinOp.add FloatKind.f32 (gF q0k (ixO 0 0 1)) 1065353216) (gF q0k (ixO 0 (z00 (z01 x1) q0k q0f (subI IntKind.i64 (Int.ofNat q0f) 1)) 1)))) (k_ (z00 (z01 x1) q0k q0f (subI IntKind.i64 (Int.ofNat q0f) 1)) 0 (fop BinOp.quo FloatKind.f32 (fop BinOp.sub FloatKind.f32 (z01 x1) (gF q0k (ixO 0 (z00 (z01 x1) q0k q0f (subI IntKind.i64 (Int.ofNat q0f) 1)) 1))) (fop BinOp.sub FloatKind.f32 (fop BinOp.add FloatKind.f32 (gF q0k (ixO 0 0 1)) 1065353216) (gF q0k (ixO 0 (z00 (z01 x1) q0k q0f (subI IntKind.i64 (Int.ofNat q0f) 1)) 1)))) (fop BinOp.sub FloatKind.f32 (fop BinOp.add FloatKind.f32 (gF q0k (ixO 0 0 1)) 1065353216) (gF q0k (ixO 0 (z00 (z01 x1) q0k q0f (subI IntKind.i64 (Int.ofNat q0f) 1)) 1))))) (br (fcmp BinOp.eql FloatKind.f32 (fop BinOp.sub FloatKind.f32 (gF q0k (ixO 0 0 1)) (gF q0k (ixO 0 (z00 (z01 x1) q0k q0f (subI IntKind.i64 (Int.ofNat q0f) 1)) 1))) 0) (k_ (z00 (z01 x1) q0k q0f (subI IntKind.i64 (Int.ofNat q0f) 1)) 0 0 (fop BinOp.sub FloatKind.f32 (gF q0k (ixO 0 0 1)) (gF q0k (ixO 0 (z00 (z01 x1) q0k q0f (subI IntKind.i64 (Int.ofNat q0f) 1)) 1)))) (k_ (z00 (z01 x1) q0k q0f (subI IntKind.i64 (Int.ofNat q0f) 1)) 0 (fop BinOp.quo FloatKind.f32 (fop BinOp.sub FloatKind.f32 (z01 x1) (gF q0k (ixO 0 (z00 (z01 x1) q0k q0f (subI IntKind.i64 (Int.ofNat q0f) 1)) 1))) (fop BinOp.sub FloatKind.f32 (gF q0k (ixO 0 0 1)) (gF q0k (ixO 0 (z00 (z01 x1) q0k q0f (subI IntKind.i64 (Int.ofNat q0f) 1)) 1)))) (fop BinOp.sub FloatKind.f32 (gF q0k (ixO 0 0 1)) (gF q0k (ixO 0 (z00 (z01 x1) q0k q0f (subI IntKind.i64 (Int.ofNat q0f) 1)) 1))))))))) (grd (okIx (z00 (z01 x1) q0k q0f (subI IntKind.i64 (Int.ofNat q0f) 1)) q0f) (grd (okIx (addI IntKind.i64 (z00 (z01 x1) q0k q0f (subI IntKind.i64 (Int.ofNat q0f) 1)) 1) q0f) (br (eqI (addI IntKind.i64 (z00 (z01 x1) q0k q0f (subI IntKind.i64 (Int.ofNat q0f) 1)) 1) 0) (br (fcmp BinOp.lss FloatKind.f32 (z01 x1) (gF q0k (ixO 0 (addI IntKind.i64 (z00 (z01 x1) q0k q0f (subI IntKind.i64 (Int.ofNat q0f) 1)) 1) 1))) (br (fcmp BinOp.eql FloatKind.f32 (fop BinOp.sub FloatKind.f32 (gF q0k (ixO 0 (addI IntKind.i64 (z00 (z01 x1) q0k q0f (subI IntKind.i64 (Int.ofNat q0f) 1)) 1) 1)) (fop BinOp.sub FloatKind.f32 (gF q0k (ixO 0 (z00 (z01 x1) q0k q0f (subI IntKind.i64 (Int.ofNat q0f) 1)) 1)) 1065353216)) 0) (k_ (z00 (z01 x1) q0k q0f (subI IntKind.i64 (Int.ofNat q0f) 1)) (addI IntKind.i64 (z00 (z01 x1) q0k q0f (subI IntKind.i64 (Int.ofNat q0f) 1)) 1) 0 (fop BinOp.sub FloatKind.f32 (gF q0k (ixO 0 (addI IntKind.i64 (z00 (z01 x1) q0k q0f (subI IntKind.i64 (Int.ofNat q0f) 1)) 1) 1)) (fop BinOp.sub FloatKind.f32 (gF q0k (ixO 0 (z00 (z01 x1) q0k q0f (subI IntKind.i64 (Int.ofNat q0f) 1)) 1)) 1065353216))) (k_ (z00 (z01 x1) q0k q0f (subI IntKind.i64 (Int.ofNat q0f) 1)) (addI IntKind.i64 (z00 (z01 x1) q0k q0f (subI IntKind.i64 (Int.ofNat q0f) 1)) 1) (fop BinOp.quo FloatKind.f32 (fop BinOp.sub FloatKind.f32 (z01 x1) (fop BinOp.sub FloatKind.f32 (gF q0k (ixO 0 (z00 (z01 x1) q0k q0f (subI IntKind.i64 (Int.ofNat q0f) 1)) 1)) 1065353216)) (fop BinOp.sub FloatKind.f32 (gF q0k (ixO 0 (addI IntKind.i64 (z00 (z01 x1) q0k q0f (subI IntKind.i64 (Int.ofNat q0f) 1)) 1) 1)) (fop BinOp.sub FloatKind.f32 (gF q0k (ixO 0 (z00 (z01 x1) q0k q0f (subI IntKind.i64 (Int.ofNat q0f) 1)) 1)) 1065353216))) (fop BinOp.sub FloatKind.f32 (gF q0k (ixO 0 (addI IntKind.i64 (z00 (z01 x1) q0k q0f (subI IntKind.i64 (Int.ofNat q0f) 1)) 1) 1)) (fop BinOp.sub FloatKind.f32 (gF q0k (ixO 0 (z00 (z01 x1) q0k q0f (subI IntKind.i64 (Int.ofNat q0f) 1)) 1)) 1065353216)))) (br (eqI (addI IntKind.i64 (z00 (z01 x1) q0k q0f (subI IntKind.i64 (Int.ofNat q0f) 1)) 1) 0) (br (fcmp BinOp.eql FloatKind.f32 (fop BinOp.sub FloatKind.f32 (fop BinOp.add FloatKind.f32 (gF q0k (ixO 0 (addI IntKind.i64 (z00 (z01 x1) q0k q0f (subI IntKind.i64 (Int.ofNat q0f) 1)) 1) 1)) 1065353216) (gF q0k (ixO 0 (z00 (z01 x1) q0k q0f (subI IntKind.i64 (Int.ofNat q0f) 1)) 1))) 0) (k_ (z00 (z01 x1) q0k q0f (subI IntKind.i64 (Int.ofNat q0f) 1)) (addI IntKind.i64 (z00 (z01 x1) q0k q0f (subI IntKind.i64 (Int.ofNat q0f) 1)) 1) 0 (fop BinOp.sub FloatKind.f32 (fop BinOp.add FloatKind.f32 (gF q0k (ixO 0 (addI IntKind.i64 (z00 (z01 x1) q0k q0f (subI IntKind.i64 (Int.ofNat q0f) 1)) 1) 1)) 1065353216) (gF q0k (ixO 0 (z00 (z01 x1) q0k q0f (subI IntKind.i64 (Int.ofNat q0f) 1)) 1)))) (k_ (z00 (z01 x1) q0k q0f (subI IntKind.i64 (Int.ofNat q0f) 1)) (addI IntKind.i64 (z00 (z01 x1) q0k q0f (subI IntKind.i64 (Int.ofNat q0f) 1)) 1) (fop BinOp.quo FloatKind.f32 (fop BinOp.sub FloatKind.f32 (z01 x1) (gF q0k (ixO 0 (z00 (z01 x1) q0k q0f (subI IntKind.i64 (Int.ofNat q0f) 1)) 1))) (fop BinOp.sub FloatKind.f32 (fop BinOp.add FloatKind.f32 (gF q0k (ixO 0 (addI IntKind.i64 (z00 (z01 x1) q0k q0f (subI IntKind.i64 (Int.ofNat q0f) 1)) 1) 1)) 1065353216) (gF q0k (ixO 0 (z00 (z01 x1) q0k q0f (subI IntKind.i64 (Int.ofNat q0f) 1)) 1)))) (fop BinOp.sub FloatKind.f32 (fop BinOp.add FloatKind.f32 (gF q0k (ixO 0 (addI IntKind.i64 (z00 (z01 x1) q0k q0f (subI IntKind.i64 (Int.ofNat q0f) 1)) 1) 1)) 1065353216) (gF q0k (ixO 0 (z00 (z01 x1) q0k q0f (subI IntKind.i64 (Int.ofNat q0f) 1)) 1))))) (br (fcmp BinOp.eql FloatKind.f32 (fop BinOp.sub FloatKind.f32 (gF q0k (ixO 0 (addI IntKind.i64 (z00 (z01 x1) q0k q0f (subI IntKind.i64 (Int.ofNat q0f) 1)) 1) 1)) (gF q0k (ixO 0 (z00 (z01 x1) q0k q0f (subI IntKind.i64 (Int.ofNat q0f) 1)) 1))) 0) (k_ (z00 (z01 x1) q0k q0f (subI IntKind.i64 (Int.ofNat q0f) 1)) (addI IntKind.i64 (z00 (z01 x1) q0k q0f (subI IntKind.i64 (Int.ofNat q0f) 1)) 1) 0 (fop BinOp.sub FloatKind.f32 (gF q0k (ixO 0 (addI IntKind.i64 (z00 (z01 x1) q0k q0f (subI IntKind.i64 (Int.ofNat q0f) 1)) 1) 1)) (gF q0k (ixO 0 (z00 (z01 x1) q0k q0f (subI IntKind.i64 (Int.ofNat q0f) 1)) 1)))) (k_ (z00 (z01 x1) q0k q0f (subI IntKind.i64 (Int.ofNat q0f) 1)) (addI IntKind.i64 (z00 (z01 x1) q0k q0f (subI IntKind.i64 (Int.ofNat q0f) 1)) 1) (fop BinOp.quo FloatKind.f32 (fop BinOp.sub FloatKind.f32 (z01 x1) (gF q0k (ixO 0 (z00 (z01 x1) q0k q0f (subI IntKind.i64 (Int.ofNat q0f) 1)) 1))) (fop BinOp.sub FloatKind.f32 (gF q0k (ixO 0 (addI IntKind.i64 (z00 (z01 x1) q0k q0f (subI IntKind.i64 (Int.ofNat q0f) 1)) 1) 1)) (gF q0k (ixO 0 (z00 (z01 x1) q0k q0f (subI IntKind.i64 (Int.ofNat q0f) 1)) 1)))) (fop BinOp.sub FloatKind.f32 (gF q0k (ixO 0 (addI IntKind.i64 (z00 (z01 x1) q0k q0f (subI IntKind.i64 (Int.ofNat q0f) 1)) 1) 1)) (gF q0k (ixO 0 (z00 (z01 x1) q0k q0f (subI IntKind.i64 (Int.ofNat q0f) 1)) 1))))))) (br (eqI (addI IntKind.i64 (z00 (z01 x1) q0k q0f (subI IntKind.i64 (Int.ofNat q0f) 1)) 1) 0) (br (fcmp BinOp.eql FloatKind.f32 (fop BinOp.sub FloatKind.f32 (fop BinOp.add FloatKind.f32 (gF q0k (ixO 0 (addI IntKind.i64 (z00 (z01 x1) q0k q0f (subI IntKind.i64 (Int.ofNat q0f) 1)) 1) 1)) 1065353216) (gF q0k (ixO 0 (z00 (z01 x1) q0k q0f (subI IntKind.i64 (Int.ofNat q0f) 1)) 1))) 0) (k_ (z00 (z01 x1) q0k q0f (subI IntKind.i64 (Int.ofNat q0f) 1)) (addI IntKind.i64 (z00 (z01 x1) q0k q0f (subI IntKind.i64 (Int.ofNat q0f) 1)) 1) 0 (fop BinOp.sub FloatKind.f32 (fop BinOp.add FloatKind.f32 (gF q0k (ixO 0 (addI IntKind.i64 (z00 (z01 x1) q0k q0f (subI IntKind.i64 (Int.ofNat q0f) 1)) 1) 1)) 1065353216) (gF q0k (ixO 0 (z00 (z01 x1) q0k q0f (subI IntKind.i64 (Int.ofNat q0f) 1)) 1)))) (k_ (z00 (z01 x1) q0k q0f (subI IntKind.i64 (Int.ofNat q0f) 1)) (addI IntKind.i64 (z00 (z01 x1) q0k q0f (subI IntKind.i64 (Int.ofNat q0f) 1)) 1) (fop BinOp.quo FloatKind.f32 (fop BinOp.sub FloatKind.f32 (z01 x1) (gF q0k (ixO 0 (z00 (z01 x1) q0k q0f (subI IntKind.i64 (Int.ofNat q0f) 1)) 1))) (fop BinOp.sub FloatKind.f32 (fop BinOp.add FloatKind.f32 (gF q0k (ixO 0 (addI IntKind.i64 (z00 (z01 x1) q0k q0f (subI IntKind.i64 (Int.ofNat q0f) 1)) 1) 1)) 1065353216) (gF q0k (ixO 0 (z00 (z01 x1) q0k q0f (subI IntKind.i64 (Int.ofNat q0f) 1)) 1)))) (fop BinOp.sub FloatKind.f32 (fop BinOp.add FloatKind.f32 (gF q0k (ixO 0 (addI IntKind.i64 (z00 (z01 x1) q0k q0f (subI IntKind.i64 (Int.ofNat q0f) 1)) 1) 1)) 1065353216) (gF q0k (ixO 0 (z00 (z01 x1) q0k q0f (subI IntKind.i64 (Int.ofNat q0f) 1)) 1))))) (br (fcmp BinOp.eql FloatKind.f32 (fop BinOp.sub FloatKind.f32 (gF q0k (ixO 0 (addI IntKind.i64 (z00 (z01 x1) q0k q0f (subI IntKind.i64 (Int.ofNat q0f) 1)) 1) 1)) (gF q0k (ixO 0 (z00 (z01 x1) q0k q0f (subI IntKind.i64 (Int.ofNat q0f) 1)) 1))) 0) (k_ (z00 (z01 x1) q0k q0f (subI IntKind.i64 (Int.ofNat q0f) 1)) (addI IntKind.i64 (z00 (z01 x1) q0k q0f (subI IntKind.i64 (Int.ofNat q0f) 1)) 1) 0 (fop BinOp.sub FloatKind.f32 (gF q0k (ixO 0 (addI IntKind.i64 (z00 (z01 x1) q0k q0f (subI IntKind.i64 (Int.ofNat q0f) 1)) 1) 1)) (gF q0k (ixO 0 (z00 (z01 x1) q0k q0f (subI IntKind.i64 (Int.ofNat q0f) 1)) 1)))) (k_ (z00 (z01 x1) q0k q0f (subI IntKind.i64 (Int.ofNat q0f) 1)) (addI IntKind.i64 (z00 (z01 x1) q0k q0f (subI IntKind.i64 (Int.ofNat q0f) 1)) 1) (fop BinOp.quo FloatKind.f32 (fop BinOp.sub FloatKind.f32 (z01 x1) (gF q0k (ixO 0 (z00 (z01 x1) q0k q0f (subI IntKind.i64 (Int.ofNat q0f) 1)) 1))) (fop BinOp.sub FloatKind.f32 (gF q0k (ixO 0 (addI IntKind.i64 (z00 (z01 x1) q0k q0f (subI IntKind.i64 (Int.ofNat q0f) 1)) 1) 1)) (gF q0k (ixO 0 (z00 (z01 x1) q0k q0f (subI IntKind.i64 (Int.ofNat q0f) 1)) 1)))) (fop BinOp.sub FloatKind.f32 (gF q0k (ixO 0 (addI IntKind.i64 (z00 (z01 x1) q0k q0f (subI IntKind.i64 (Int.ofNat q0f) 1)) 1) 1)) (gF q0k (ixO 0 (z00 (z01 x1) q0k q0f (subI IntKind.i64 (Int.ofNat q0f) 1)) 1)))))))))))))
noncomputable def z91 (q0f : Nat) (q0k : List Nat) (q0s : Nat) (q0y : List Nat) (q0t : Nat) (q0z : List Nat) (x1 : Nat) : Option (Int × Int × Nat × Nat) := zcv q0f q0k q0s q0y q0t q0z x1 (fun c0_ c1_ c2_ c3_ => some (c0_, c1_, c2_, c3_))
theorem zsh {R R' : Type} (o : Option R → Option R') (h0 : o none = none) (q0f : Nat) (q0k : List Nat) (q0s : Nat) (q0y : List Nat) (q0t : Nat) (q0z : List Nat) (x1 : Nat) (k_ : Int → Int → Nat → Nat → Option R) : zcv q0f q0k q0s q0y q0t q0z x1 (fun c0_ c1_ c2_ c3_ => o (k_ c0_ c1_ c2_ c3_)) = o (zcv q0f q0k q0s q0y q0t q0z x1 k_) := by
  unfold zcv
  repeat (first | refine grd_out h0 ?_ | refine br_out ?_ ?_ | rfl | exact h0.symm)
noncomputable def zl8 (q0f : Nat) (q0k : List Nat) (q0s : Nat) (q0y : List Nat) (q0t : Nat) (q0z : List Nat) (x1 : Nat) : Bool := (z91 q0f q0k q0s q0y q0t q0z x1).isSome
noncomputable def zbl (q0f : Nat) (q0k : List Nat) (q0s : Nat) (q0y : List Nat) (q0t : Nat) (q0z : List Nat) (x1 : Nat) : Int := ((z91 q0f q0k q0s q0y q0t q0z x1).getD default).1
noncomputable def zgo (q0f : Nat) (q0k : List Nat) (q0s : Nat) (q0y : List Nat) (q0t : Nat) (q0z : List Nat) (x1 : Nat) : Int := ((z91 q0f q0k q0s q0y q0t q0z x1).getD default).2.1
noncomputable def zkd (q0f : Nat) (q0k : List Nat) (q0s : Nat) (q0y : List Nat) (q0t : Nat) (q0z : List Nat) (x1 : Nat) : Nat := ((z91 q0f q0k q0s q0y q0t q0z x1).getD default).2.2.1
noncomputable def zm8 (q0f : Nat) (q0k : List Nat) (q0s : Nat) (q0y : List Nat) (q0t : Nat) (q0z : List Nat) (x1 : Nat) : Nat := ((z91 q0f q0k q0s q0y q0t q0z x1).getD default).2.2.2
theorem zvo {q0f : Nat} {q0k : List Nat} {q0s : Nat} {q0y : List Nat} {q0t : Nat} {q0z : List Nat} {x1 : Nat} {r : Int × Int × Nat × Nat} (h : z91 q0f q0k q0s q0y q0t q0z x1 = some r) : zl8 q0f q0k q0s q0y q0t q0z x1 = true ∧ zbl q0f q0k q0s q0y q0t q0z x1 = r.1 ∧ zgo q0f q0k q0s q0y q0t q0z x1 = r.2.1 ∧ zkd q0f q0k q0s q0y q0t q0z x1 = r.2.2.1 ∧ zm8 q0f q0k q0s q0y q0t q0z x1 = r.2.2.2 := by
  unfold zl8 zbl zgo zkd zm8
  rw [h]
  exact ⟨rfl, rfl, rfl, rfl, rfl⟩
noncomputable def z6z {R : Type} (q2h : Nat) (t43 : Int) (b0 : List Nat) (q1e : Nat) (t44 : Int) (kn_ : Int → Option R) (k0_ : Unit → Option R) (k1_ : Int → Bool → Option R) : Option R := (br (ltI t44 t43) (grd (okIx t44 q2h) (grd (zh9 (gF b0 (ixO 0 t44 1)) 3204448256 1056964608) (br (bnot (zfg (gF b0 (ixO 0 t44 1)) 3204448256 1056964608)) (k0_ ()) (br (ltI 0 t44) (grd (okIx (subI IntKind.i64 t44 1) q1e) (br (fcmp BinOp.geq FloatKind.f32 (gF b0 (ixO 0 (subI IntKind.i64 t44 1) 1)) (gF b0 (ixO 0 t44 1))) (k0_ ()) (kn_ (addI IntKind.i64 t44 1)))) (kn_ (addI IntKind.i64 t44 1)))))) (k1_ t44 (ltI t44 t43)))
theorem zmu {R R' : Type} (o : Option R → Option R') (h0 : o none = none) (q2h : Nat) (t43 : Int) (b0 : List Nat) (q1e : Nat) (t44 : Int) (kn_ : Int → Option R) (k0_ : Unit → Option R) (k1_ : Int → Bool → Option R) : z6z q2h t43 b0 q1e t44 (fun t44' => o (kn_ t44')) (fun _ => o (k0_ ())) (fun c0_ c1_ => o (k1_ c0_ c1_)) = o (z6z q2h t43 b0 q1e t44 kn_ k0_ k1_) := by
  unfold z6z
  repeat (first | refine grd_out h0 ?_ | refine br_out ?_ ?_ | rfl | exact h0.symm)
noncomputable def z4a (q2h : Nat) (t43 : Int) (b0 : List Nat) (q1e : Nat) : Nat → Int → Option ((Unit) ⊕ (Int × Bool))
  | 0, _ => none
  | n + 1, t44 => z6z q2h t43 b0 q1e  t44  (fun t44' => z4a q2h t43 b0 q1e n t44') (fun _ => some (Sum.inl ())) (fun c0_ c1_ => some (Sum.inr (c0_, c1_)))
theorem zjf (q2h : Nat) (t43 : Int) (b0 : List Nat) (q1e : Nat) (n : Nat) (t44 : Int) : z4a q2h t43 b0 q1e (n + 1) t44 = z6z q2h t43 b0 q1e  t44  (fun t44' => z4a q2h t43 b0 q1e n t44') (fun _ => some (Sum.inl ())) (fun c0_ c1_ => some (Sum.inr (c0_, c1_))) := rfl
noncomputable def z8n (q2h : Nat) (t43 : Int) (b0 : List Nat) (q1e : Nat) (t44 : Int) : Bool := (z4a q2h t43 b0 q1e big t44).isSome
noncomputable def z87 (q2h : Nat) (t43 : Int) (b0 : List Nat) (q1e : Nat) (t44 : Int) : Bool := oL (z4a q2h t43 b0 q1e big t44)
noncomputable def zee (q2h : Nat) (t43 : Int) (b0 : List Nat) (q1e : Nat) (t44 : Int) : Int := ((tR (z4a q2h t43 b0 q1e big t44)).getD default).1
noncomputable def zej (q2h : Nat) (t43 : Int) (b0 : List Nat) (q1e : Nat) (t44 : Int) : Bool := ((tR (z4a q2h t43 b0 q1e big t44)).getD default).2
theorem znq {q2h : Nat} {t43 : Int} {b0 : List Nat} {q1e : Nat} {t44 : Int} {m : Nat} {r : Unit} (hm : m = big) (h : z4a q2h t43 b0 q1e m t44 = some (Sum.inl r)) : z8n q2h t43 b0 q1e t44 = true ∧ z87 q2h t43 b0 q1e t44 = true := by
  subst hm
  unfold z8n z87
  rw [h]
  exact ⟨rfl, rfl⟩
theorem znl {q2h : Nat} {t43 : Int} {b0 : List Nat} {q1e : Nat} {t44 : Int} {m : Nat} {r : Int × Bool} (hm : m = big) (h : z4a q2h t43 b0 q1e m t44 = some (Sum.inr r)) : z8n q2h t43 b0 q1e t44 = true ∧ z87 q2h t43 b0 q1e t44 = false ∧ zee q2h t43 b0 q1e t44 = r.1 ∧ zej q2h t43 b0 q1e t44 = r.2 := by
  subst hm
  unfold z8n z87 zee zej
  rw [h]
  exact ⟨rfl, rfl, rfl, rfl⟩
noncomputable def zae {R : Type} (q0f : Nat) (q0k : List Nat) (q0s : Nat) (q0y : List Nat) (q0t : Nat) (q0z : List Nat) (k_ : Bool → Option R) : Option R := (br (ltI (Int.ofNat q0f) 2) (k_ Bool.false) (br (ltI 24 (Int.ofNat q0f)) (k_ Bool.false) (br (neI (Int.ofNat q0s) (Int.ofNat q0f)) (k_ Bool.false) (br (neI (Int.ofNat q0t) (Int.ofNat q0f)) (k_ Bool.false) (grd (zfe q0s (pF q0y 0 (muN q0s 1))) (br (bnot (zea q0s (pF q0y 0 (muN q0s 1)))) (k_ Bool.false) (grd (zki q0t (pF q0z 0 (muN q0t 1))) (br (bnot (zjt q0t (pF q0z 0 (muN q0t 1)))) (k_ Bool.false) (grd (z8n q0f (Int.ofNat q0f) q0k q0f 0) (br (z87 q0f (Int.ofNat q0f) q0k q0f 0) (k_ Bool.false) (k_ Bool.true)))))))))))
noncomputable def zad (q0f : Nat) (q0k : List Nat) (q0s : Nat) (q0y : List Nat) (q0t : Nat) (q0z : List Nat) : Option (Bool) := zae q0f q0k q0s q0y q0t q0z (fun c0_ => some c0_)
theorem zof {R R' : Type} (o : Option R → Option R') (h0 : o none = none) (q0f : Nat) (q0k : List Nat) (q0s : Nat) (q0y : List Nat) (q0t : Nat) (q0z : List Nat) (k_ : Bool → Option R) : zae q0f q0k q0s q0y q0t q0z (fun c0_ => o (k_ c0_)) = o (zae q0f q0k q0s q0y q0t q0z k_) := by
  unfold zae
  repeat (first | refine grd_out h0 ?_ | refine br_out ?_ ?_ | rfl | exact h0.symm)
noncomputable def zfq (q0f : Nat) (q0k : List Nat) (q0s : Nat) (q0y : List Nat) (q0t : Nat) (q0z : List Nat) : Bool := (zad q0f q0k q0s q0y q0t q0z).isSome
noncomputable def zei (q0f : Nat) (q0k : List Nat) (q0s : Nat) (q0y : List Nat) (q0t : Nat) (q0z : List Nat) : Bool := ((zad q0f q0k q0s q0y q0t q0z).getD default)
theorem zqv {q0f : Nat} {q0k : List Nat} {q0s : Nat} {q0y : List Nat} {q0t : Nat} {q0z : List Nat} {r : Bool} (h : zad q0f q0k q0s q0y q0t q0z = some r) : zfq q0f q0k q0s q0y q0t q0z = true ∧ zei q0f q0k q0s q0y q0t q0z = r := by
  unfold zfq zei
  rw [h]
  exact ⟨rfl, rfl⟩
noncomputable def zbv {R : Type} (q10 : Nat) (q1a : List Nat) (q11 : Nat) (q1f : List Nat) (q12 : Nat) (q1g : List Nat) (q1k : Nat) (q1v : List Nat) (q1s : Nat) (k_ : Nat → Option R) : Option R := (grd (zdk q10 (pF q1a 0 (muN q10 1)) q11 (pF q1f 0 (muN q11 1)) q12 (pF q1g 0 (muN q12 1)) q1s) (br (fcmp BinOp.neq FloatKind.f32 (z79 q10 (pF q1a 0 (muN q10 1)) q11 (pF q1f 0 (muN q11 1)) q12 (pF q1g 0 (muN q12 1)) q1s) (z8v q10 (pF q1a 0 (muN q10 1)) q11 (pF q1f 0 (muN q11 1)) q12 (pF q1g 0 (muN q12 1)) q1s)) (grd (okIx (z6j q10 (pF q1a 0 (muN q10 1)) q11 (pF q1f 0 (muN q11 1)) q12 (pF q1g 0 (muN q12 1)) q1s) q1k) (grd (okIx (z6i q10 (pF q1a 0 (muN q10 1)) q11 (pF q1f 0 (muN q11 1)) q12 (pF q1g 0 (muN q12 1)) q1s) q1k) (grd (zkv (gF q1v (ixO 0 (z6j q10 (pF q1a 0 (muN q10 1)) q11 (pF q1f 0 (muN q11 1)) q12 (pF q1g 0 (muN q12 1)) q1s) 1)) (gF q1v (ixO 0 (z6i q10 (pF q1a 0 (muN q10 1)) q11 (pF q1f 0 (muN q11 1)) q12 (pF q1g 0 (muN q12 1)) q1s) 1)) (fop BinOp.quo FloatKind.f32 (fop BinOp.sub FloatKind.f32 (za2 q10 (pF q1a 0 (muN q10 1)) q11 (pF q1f 0 (muN q11 1)) q12 (pF q1g 0 (muN q12 1)) q1s) (z79 q10 (pF q1a 0 (muN q10 1)) q11 (pF q1f 0 (muN q11 1)) q12 (pF q1g 0 (muN q12 1)) q1s)) (fop BinOp.sub FloatKind.f32 (z8v q10 (pF q1a 0 (muN q10 1)) q11 (pF q1f 0 (muN q11 1)) q12 (pF q1g 0 (muN q12 1)) q1s) (z79 q10 (pF q1a 0 (muN q10 1)) q11 (pF q1f 0 (muN q11 1)) q12 (pF q1g 0 (muN q12 1)) q1s)))) (k_ (zk0 (gF q1v (ixO 0 (z6j q10 (pF q1a 0 (muN q10 1)) q11 (pF q1f 0 (muN q11 1)) q12 (pF q1g 0 (muN q12 1)) q1s) 1)) (gF q1v (ixO 0 (z6i q10 (pF q1a 0 (muN q10 1)) q11 (pF q1f 0 (muN q11 1)) q12 (pF q1g 0 (muN q12 1)) q1s) 1)) (fop BinOp.quo FloatKind.f32 (fop BinOp.sub FloatKind.f32 (za2 q10 (pF q1a 0 (muN q10 1)) q11 (pF q1f 0 (muN q11 1)) q12 (pF q1g 0 (muN q12 1)) q1s) (z79 q10 (pF q1a 0 (muN q10 1)) q11 (pF q1f 0 (muN q11 1)) q12 (pF q1g 0 (muN q12 1)) q1s)) (fop BinOp.sub FloatKind.f32 (z8v q10 (pF q1a 0 (muN q10 1)) q11 (pF q1f 0 (muN q11 1)) q12 (pF q1g 0 (muN q12 1)) q1s) (z79 q10 (pF q1a 0 (muN q10 1)) q11 (pF q1f 0 (muN q11 1)) q12 (pF q1g 0 (muN q12 1)) q1s)))))))) (grd (okIx (z6j q10 (pF q1a 0 (muN q10 1)) q11 (pF q1f 0 (muN q11 1)) q12 (pF q1g 0 (muN q12 1)) q1s) q1k) (grd (okIx (z6i q10 (pF q1a 0 (muN q10 1)) q11 (pF q1f 0 (muN q11 1)) q12 (pF q1g 0 (muN q12 1)) q1s) q1k) (grd (zkv (gF q1v (ixO 0 (z6j q10 (pF q1a 0 (muN q10 1)) q11 (pF q1f 0 (muN q11 1)) q12 (pF q1g 0 (muN q12 1)) q1s) 1)) (gF q1v (ixO 0 (z6i q10 (pF q1a 0 (muN q10 1)) q11 (pF q1f 0 (muN q11 1)) q12 (pF q1g 0 (muN q12 1)) q1s) 1)) 0) (k_ (zk0 (gF q1v (ixO 0 (z6j q10 (pF q1a 0 (muN q10 1)) q11 (pF q1f 0 (muN q11 1)) q12 (pF q1g 0 (muN q12 1)) q1s) 1)) (gF q1v (ixO 0 (z6i q10 (pF q1a 0 (muN q10 1)) q11 (pF q1f 0 (muN q11 1)) q12 (pF q1g 0 (muN q12 1)) q1s) 1)) 0)))))))
noncomputable def zcf (q10 : Nat) (q1a : List Nat) (q11 : Nat) (q1f : List Nat) (q12 : Nat) (q1g : List Nat) (q1k : Nat) (q1v : List Nat) (q1s : Nat) : Option (Nat) := zbv q10 q1a q11 q1f q12 q1g q1k q1v q1s (fun c0_ => some c0_)
theorem zph {R R' : Type} (o : Option R → Option R') (h0 : o none = none) (q10 : Nat) (q1a : List Nat) (q11 : Nat) (q1f : List Nat) (q12 : Nat) (q1g : List Nat) (q1k : Nat) (q1v : List Nat) (q1s : Nat) (k_ : Nat → Option R) : zbv q10 q1a q11 q1f q12 q1g q1k q1v q1s (fun c0_ => o (k_ c0_)) = o (zbv q10 q1a q11 q1f q12 q1g q1k q1v q1s k_) := by
  unfold zbv
  repeat (first | refine grd_out h0 ?_ | refine br_out ?_ ?_ | rfl | exact h0.symm)
noncomputable def zed (q10 : Nat) (q1a : List Nat) (q11 : Nat) (q1f : List Nat) (q12 : Nat) (q1g : List Nat) (q1k : Nat) (q1v : List Nat) (q1s : Nat) : Bool := (zcf q10 q1a q11 q1f q12 q1g q1k q1v q1s).isSome
noncomputable def z9n (q10 : Nat) (q1a : List Nat) (q11 : Nat) (q1f : List Nat) (q12 : Nat) (q1g : List Nat) (q1k : Nat) (q1v : List Nat) (q1s : Nat) : Nat := ((zcf q10 q1a q11 q1f q12 q1g q1k q1v q1s).getD default)
theorem zmm {q10 : Nat} {q1a : List Nat} {q11 : Nat} {q1f : List Nat} {q12 : Nat} {q1g : List Nat} {q1k : Nat} {q1v : List Nat} {q1s : Nat} {r : Nat} (h : zcf q10 q1a q11 q1f q12 q1g q1k q1v q1s = some r) : zed q10 q1a q11 q1f q12 q1g q1k q1v q1s = true ∧ z9n q10 q1a q11 q1f q12 q1g q1k q1v q1s = r := by
  unfold zed z9n
  rw [h]
  exact ⟨rfl, rfl⟩
noncomputable def zij {R : Type} (q10 : Nat) (q1a : List Nat) (q11 : Nat) (q1f : List Nat) (q12 : Nat) (q1g : List Nat) (q1k : Nat) (q1v : List Nat) (q1s : Nat) (k_ : Nat → Option R) : Option R := (grd (zl8 q10 (pF q1a 0 (muN q10 1)) q11 (pF q1f 0 (muN q11 1)) q12 (pF q1g 0 (muN q12 1)) q1s) (grd (okIx (zbl q10 (pF q1a 0 (muN q10 1)) q11 (pF q1f 0 (muN q11 1)) q12 (pF q1g 0 (muN q12 1)) q1s) q1k) (grd (okIx (zgo q10 (pF q1a 0 (muN q10 1)) q11 (pF q1f 0 (muN q11 1)) q12 (pF q1g 0 (muN q12 1)) q1s) q1k) (grd (okIx (zbl q10 (pF q1a 0 (muN q10 1)) q11 (pF q1f 0 (muN q11 1)) q12 (pF q1g 0 (muN q12 1)) q1s) q1k) (k_ (fop BinOp.add FloatKind.f32 (gF q1v (ixO 0 (zbl q10 (pF q1a 0 (muN q10 1)) q11 (pF q1f 0 (muN q11 1)) q12 (pF q1g 0 (muN q12 1)) q1s) 1)) (fop BinOp.mul FloatKind.f32 (zkd q10 (pF q1a 0 (muN q10 1)) q11 (pF q1f 0 (muN q11 1)) q12 (pF q1g 0 (muN q12 1)) q1s) (fop BinOp.sub FloatKind.f32 (gF q1v (ixO 0 (zgo q10 (pF q1a 0 (muN q10 1)) q11 (pF q1f 0 (muN q11 1)) q12 (pF q1g 0 (muN q12 1)) q1s) 1)) (gF q1v (ixO 0 (zbl q10 (pF q1a 0 (muN q10 1)) q11 (pF q1f 0 (muN q11 1)) q12 (pF q1g 0 (muN q12 1)) q1s) 1))))))))))
noncomputable def ziy (q10 : Nat) (q1a : List Nat) (q11 : Nat) (q1f : List Nat) (q12 : Nat) (q1g : List Nat) (q1k : Nat) (q1v : List Nat) (q1s : Nat) : Option (Nat) := zij q10 q1a q11 q1f q12 q1g q1k q1v q1s (fun c0_ => some c0_)
theorem zua {R R' : Type} (o : Option R → Option R') (h0 : o none = none) (q10 : Nat) (q1a : List Nat) (q11 : Nat) (q1f : List Nat) (q12 : Nat) (q1g : List Nat) (q1k : Nat) (q1v : List Nat) (q1s : Nat) (k_ : Nat → Option R) : zij q10 q1a q11 q1f q12 q1g q1k q1v q1s (fun c0_ => o (k_ c0_)) = o (zij q10 q1a q11 q1f q12 q1g q1k q1v q1s k_) := by
  unfold zij
  repeat (first | refine grd_out h0 ?_ | refine br_out ?_ ?_ | rfl | exact h0.symm)
noncomputable def zl0 (q10 : Nat) (q1a : List Nat) (q11 : Nat) (q1f : List Nat) (q12 : Nat) (q1g : List Nat) (q1k : Nat) (q1v : List Nat) (q1s : Nat) : Bool := (ziy q10 q1a q11 q1f q12 q1g q1k q1v q1s).isSome
noncomputable def zk3 (q10 : Nat) (q1a : List Nat) (q11 : Nat) (q1f : List Nat) (q12 : Nat) (q1g : List Nat) (q1k : Nat) (q1v : List Nat) (q1s : Nat) : Nat := ((ziy q10 q1a q11 q1f q12 q1g q1k q1v q1s).getD default)
theorem zrf {q10 : Nat} {q1a : List Nat} {q11 : Nat} {q1f : List Nat} {q12 : Nat} {q1g : List Nat} {q1k : Nat} {q1v : List Nat} {q1s : Nat} {r : Nat} (h : ziy q10 q1a q11 q1f q12 q1g q1k q1v q1s = some r) : zl0 q10 q1a q11 q1f q12 q1g q1k q1v q1s = true ∧ zk3 q10 q1a q11 q1f q12 q1g q1k q1v q1s = r := by
  unfold zl0 zk3
  rw [h]
  exact ⟨rfl, rfl⟩
noncomputable def zai {R : Type} (q04 : Nat) (q0a : List Nat) (q05 : Nat) (q0c : List Nat) (q06 : Nat) (q0b : List Nat) (q0e : Nat) (q0h : List Nat) (q0l : Int) (q0n : Nat) (q0m : Nat) (i : Int) (q15 : Nat) (q0o : Nat) (k_ : Nat → Nat → Option R) : Option R := (grd (okIx i q0e) (grd (zed q04 (pF q0a 0 (muN q04 1)) q05 (pF q0c 0 (muN q05 1)) q06 (pF q0b 0 (muN q06 1)) q05 (pF q0c 0 (muN q05 1)) (fop BinOp.sub FloatKind.f32 (fop BinOp.sub FloatKind.f32 q15 (gF q0h (Nat.succ (Nat.succ (ixO 0 i 3))))) q0o)) (grd (zed q04 (pF q0a 0 (muN q04 1)) q05 (pF q0c 0 (muN q05 1)) q06 (pF q0b 0 (muN q06 1)) q06 (pF q0b 0 (muN q06 1)) (fop BinOp.sub FloatKind.f32 (fop BinOp.sub FloatKind.f32 q15 (gF q0h (Nat.succ (Nat.succ (ixO 0 i 3))))) q0o)) (grd (z8m q15) (grd (z8m (fop BinOp.add FloatKind.f32 q15 1048576000)) (k_ (fop BinOp.add FloatKind.f32 (fop BinOp.mul FloatKind.f32 (z9n q04 (pF q0a 0 (muN q04 1)) q05 (pF q0c 0 (muN q05 1)) q06 (pF q0b 0 (muN q06 1)) q05 (pF q0c 0 (muN q05 1)) (fop BinOp.sub FloatKind.f32 (fop BinOp.sub FloatKind.f32 q15 (gF q0h (Nat.succ (Nat.succ (ixO 0 i 3))))) q0o)) (z63 (fop BinOp.add FloatKind.f32 q15 1048576000))) (fop BinOp.mul FloatKind.f32 (z9n q04 (pF q0a 0 (muN q04 1)) q05 (pF q0c 0 (muN q05 1)) q06 (pF q0b 0 (muN q06 1)) q06 (pF q0b 0 (muN q06 1)) (fop BinOp.sub FloatKind.f32 (fop BinOp.sub FloatKind.f32 q15 (gF q0h (Nat.succ (Nat.succ (ixO 0 i 3))))) q0o)) (z63 q15))) (fop BinOp.sub FloatKind.f32 (fop BinOp.mul FloatKind.f32 (z9n q04 (pF q0a 0 (muN q04 1)) q05 (pF q0c 0 (muN q05 1)) q06 (pF q0b 0 (muN q06 1)) q05 (pF q0c 0 (muN q05 1)) (fop BinOp.sub FloatKind.f32 (fop BinOp.sub FloatKind.f32 q15 (gF q0h (Nat.succ (Nat.succ (ixO 0 i 3))))) q0o)) (z63 q15)) (fop BinOp.mul FloatKind.f32 (z9n q04 (pF q0a 0 (muN q04 1)) q05 (pF q0c 0 (muN q05 1)) q06 (pF q0b 0 (muN q06 1)) q06 (pF q0b 0 (muN q06 1)) (fop BinOp.sub FloatKind.f32 (fop BinOp.sub FloatKind.f32 q15 (gF q0h (Nat.succ (Nat.succ (ixO 0 i 3))))) q0o)) (z63 (fop BinOp.add FloatKind.f32 q15 1048576000))))))))))
noncomputable def z8p (q04 : Nat) (q0a : List Nat) (q05 : Nat) (q0c : List Nat) (q06 : Nat) (q0b : List Nat) (q0e : Nat) (q0h : List Nat) (q0l : Int) (q0n : Nat) (q0m : Nat) (i : Int) (q15 : Nat) (q0o : Nat) : Option (Nat × Nat) := zai q04 q0a q05 q0c q06 q0b q0e q0h q0l q0n q0m i q15 q0o (fun c0_ c1_ => some (c0_, c1_))
theorem zoe {R R' : Type} (o : Option R → Option R') (h0 : o none = none) (q04 : Nat) (q0a : List Nat) (q05 : Nat) (q0c : List Nat) (q06 : Nat) (q0b : List Nat) (q0e : Nat) (q0h : List Nat) (q0l : Int) (q0n : Nat) (q0m : Nat) (i : Int) (q15 : Nat) (q0o : Nat) (k_ : Nat → Nat → Option R) : zai q04 q0a q05 q0c q06 q0b q0e q0h q0l q0n q0m i q15 q0o (fun c0_ c1_ => o (k_ c0_ c1_)) = o (zai q04 q0a q05 q0c q06 q0b q0e q0h q0l q0n q0m i q15 q0o k_) := by
  unfold zai
  repeat (first | refine grd_out h0 ?_ | refine br_out ?_ ?_ | rfl | exact h0.symm)
noncomputable def zcm (q04 : Nat) (q0a : List Nat) (q05 : Nat) (q0c : List Nat) (q06 : Nat) (q0b : List Nat) (q0e : Nat) (q0h : List Nat) (q0l : Int) (q0n : Nat) (q0m : Nat) (i : Int) (q15 : Nat) (q0o : Nat) : Bool := (z8p q04 q0a q05 q0c q06 q0b q0e q0h q0l q0n q0m i q15 q0o).isSome
noncomputable def z8d (q04 : Nat) (q0a : List Nat) (q05 : Nat) (q0c : List Nat) (q06 : Nat) (q0b : List Nat) (q0e : Nat) (q0h : List Nat) (q0l : Int) (q0n : Nat) (q0m : Nat) (i : Int) (q15 : Nat) (q0o : Nat) : Nat := ((z8p q04 q0a q05 q0c q06 q0b q0e q0h q0l q0n q0m i q15 q0o).getD default).1
noncomputable def z8f (q04 : Nat) (q0a : List Nat) (q05 : Nat) (q0c : List Nat) (q06 : Nat) (q0b : List Nat) (q0e : Nat) (q0h : List Nat) (q0l : Int) (q0n : Nat) (q0m : Nat) (i : Int) (q15 : Nat) (q0o : Nat) : Nat := ((z8p q04 q0a q05 q0c q06 q0b q0e q0h q0l q0n q0m i q15 q0o).getD default).2
theorem zm4 {q04 : Nat} {q0a : List Nat} {q05 : Nat} {q0c : List Nat} {q06 : Nat} {q0b : List Nat} {q0e : Nat} {q0h : List Nat} {q0l : Int} {q0n : Nat} {q0m : Nat} {i : Int} {q15 : Nat} {q0o : Nat} {r : Nat × Nat} (h : z8p q04 q0a q05 q0c q06 q0b q0e q0h q0l q0n q0m i q15 q0o = some r) : zcm q04 q0a q05 q0c q06 q0b q0e q0h q0l q0n q0m i q15 q0o = true ∧ z8d q04 q0a q05 q0c q06 q0b q0e q0h q0l q0n q0m i q15 q0o = r.1 ∧ z8f q04 q0a q05 q0c q06 q0b q0e q0h q0l q0n q0m i q15 q0o = r.2 := by
  unfold zcm z8d z8f
  rw [h]
  exact ⟨rfl, rfl, rfl⟩
noncomputable def zf2 {R : Type} (q10 : Nat) (q1a : List Nat) (q11 : Nat) (q1f : List Nat) (q12 : Nat) (q1g : List Nat) (q1s : Nat) (k_ : Nat → Option R) : Option R := (grd (zl0 q10 (pF q1a 0 (muN q10 1)) q11 (pF q1f 0 (muN q11 1)) q12 (pF q1g 0 (muN q12 1)) q11 (pF q1f 0 (muN q11 1)) q1s) (k_ (zk3 q10 (pF q1a 0 (muN q10 1)) q11 (pF q1f 0 (muN q11 1)) q12 (pF q1g 0 (muN q12 1)) q11 (pF q1f 0 (muN q11 1)) q1s)))
noncomputable def zev (q10 : Nat) (q1a : List Nat) (q11 : Nat) (q1f : List Nat) (q12 : Nat) (q1g : List Nat) (q1s : Nat) : Option (Nat) := zf2 q10 q1a q11 q1f q12 q1g q1s (fun c0_ => some c0_)
theorem zsb {R R' : Type} (o : Option R → Option R') (h0 : o none = none) (q10 : Nat) (q1a : List Nat) (q11 : Nat) (q1f : List Nat) (q12 : Nat) (q1g : List Nat) (q1s : Nat) (k_ : Nat → Option R) : zf2 q10 q1a q11 q1f q12 q1g q1s (fun c0_ => o (k_ c0_)) = o (zf2 q10 q1a q11 q1f q12 q1g q1s k_) := by
  unfold zf2
  repeat (first | refine grd_out h0 ?_ | refine br_out ?_ ?_ | rfl | exact h0.symm)
noncomputable def zl9 (q10 : Nat) (q1a : List Nat) (q11 : Nat) (q1f : List Nat) (q12 : Nat) (q1g : List Nat) (q1s : Nat) : Bool := (zev q10 q1a q11 q1f q12 q1g q1s).isSome
noncomputable def zh7 (q10 : Nat) (q1a : List Nat) (q11 : Nat) (q1f : List Nat) (q12 : Nat) (q1g : List Nat) (q1s : Nat) : Nat := ((zev q10 q1a q11 q1f q12 q1g q1s).getD default)
theorem zv6 {q10 : Nat} {q1a : List Nat} {q11 : Nat} {q1f : List Nat} {q12 : Nat} {q1g : List Nat} {q1s : Nat} {r : Nat} (h : zev q10 q1a q11 q1f q12 q1g q1s = some r) : zl9 q10 q1a q11 q1f q12 q1g q1s = true ∧ zh7 q10 q1a q11 q1f q12 q1g q1s = r := by
  unfold zl9 zh7
  rw [h]
  exact ⟨rfl, rfl⟩
noncomputable def zes {R : Type} (q10 : Nat) (q1a : List Nat) (q11 : Nat) (q1f : List Nat) (q12 : Nat) (q1g : List Nat) (q1s : Nat) (k_ : Nat → Option R) : Option R := (grd (zl0 q10 (pF q1a 0 (muN q10 1)) q11 (pF q1f 0 (muN q11 1)) q12 (pF q1g 0 (muN q12 1)) q12 (pF q1g 0 (muN q12 1)) q1s) (k_ (zk3 q10 (pF q1a 0 (muN q10 1)) q11 (pF q1f 0 (muN q11 1)) q12 (pF q1g 0 (muN q12 1)) q12 (pF q1g 0 (muN q12 1)) q1s)))
noncomputable def zey (q10 : Nat) (q1a : List Nat) (q11 : Nat) (q1f : List Nat) (q12 : Nat) (q1g : List Nat) (q1s : Nat) : Option (Nat) := zes q10 q1a q11 q1f q12 q1g q1s (fun c0_ => some c0_)
theorem zs8 {R R' : Type} (o : Option R → Option R') (h0 : o none = none) (q10 : Nat) (q1a : List Nat) (q11 : Nat) (q1f : List Nat) (q12 : Nat) (q1g : List Nat) (q1s : Nat) (k_ : Nat → Option R) : zes q10 q1a q11 q1f q12 q1g q1s (fun c0_ => o (k_ c0_)) = o (zes q10 q1a q11 q1f q12 q1g q1s k_) := by
  unfold zes
  repeat (first | refine grd_out h0 ?_ | refine br_out ?_ ?_ | rfl | exact h0.symm)
noncomputable def zlg (q10 : Nat) (q1a : List Nat) (q11 : Nat) (q1f : List Nat) (q12 : Nat) (q1g : List Nat) (q1s : Nat) : Bool := (zey q10 q1a q11 q1f q12 q1g q1s).isSome
noncomputable def zgp (q10 : Nat) (q1a : List Nat) (q11 : Nat) (q1f : List Nat) (q12 : Nat) (q1g : List Nat) (q1s : Nat) : Nat := ((zey q10 q1a q11 q1f q12 q1g q1s).getD default)
theorem zv7 {q10 : Nat} {q1a : List Nat} {q11 : Nat} {q1f : List Nat} {q12 : Nat} {q1g : List Nat} {q1s : Nat} {r : Nat} (h : zey q10 q1a q11 q1f q12 q1g q1s = some r) : zlg q10 q1a q11 q1f q12 q1g q1s = true ∧ zgp q10 q1a q11 q1f q12 q1g q1s = r := by
  unfold zlg zgp
  rw [h]
  exact ⟨rfl, rfl⟩
noncomputable def zcx {R : Type} (q04 : Nat) (q0a : List Nat) (q05 : Nat) (q0c : List Nat) (q06 : Nat) (q0b : List Nat) (q0e : Nat) (q0h : List Nat) (q0l : Int) (q0n : Nat) (q0m : Nat) (i : Int) (q15 : Nat) (q0o : Nat) (k_ : Nat → Nat → Option R) : Option R := (grd (okIx i q0e) (grd (zl9 q04 (pF q0a 0 (muN q04 1)) q05 (pF q0c 0 (muN q05 1)) q06 (pF q0b 0 (muN q06 1)) (fop BinOp.sub FloatKind.f32 (fop BinOp.sub FloatKind.f32 q15 (gF q0h (Nat.succ (Nat.succ (ixO 0 i 3))))) q0o)) (grd (zlg q04 (pF q0a 0 (muN q04 1)) q05 (pF q0c 0 (muN q05 1)) q06 (pF q0b 0 (muN q06 1)) (fop BinOp.sub FloatKind.f32 (fop BinOp.sub FloatKind.f32 q15 (gF q0h (Nat.succ (Nat.succ (ixO 0 i 3))))) q0o)) (grd (z9y q15) (grd (z9y (fop BinOp.add FloatKind.f32 q15 1048576000)) (k_ (fop BinOp.add FloatKind.f32 (fop BinOp.mul FloatKind.f32 (zh7 q04 (pF q0a 0 (muN q04 1)) q05 (pF q0c 0 (muN q05 1)) q06 (pF q0b 0 (muN q06 1)) (fop BinOp.sub FloatKind.f32 (fop BinOp.sub FloatKind.f32 q15 (gF q0h (Nat.succ (Nat.succ (ixO 0 i 3))))) q0o)) (z62 (fop BinOp.add FloatKind.f32 q15 1048576000))) (fop BinOp.mul FloatKind.f32 (zgp q04 (pF q0a 0 (muN q04 1)) q05 (pF q0c 0 (muN q05 1)) q06 (pF q0b 0 (muN q06 1)) (fop BinOp.sub FloatKind.f32 (fop BinOp.sub FloatKind.f32 q15 (gF q0h (Nat.succ (Nat.succ (ixO 0 i 3))))) q0o)) (z62 q15))) (fop BinOp.sub FloatKind.f32 (fop BinOp.mul FloatKind.f32 (zh7 q04 (pF q0a 0 (muN q04 1)) q05 (pF q0c 0 (muN q05 1)) q06 (pF q0b 0 (muN q06 1)) (fop BinOp.sub FloatKind.f32 (fop BinOp.sub FloatKind.f32 q15 (gF q0h (Nat.succ (Nat.succ (ixO 0 i 3))))) q0o)) (z62 q15)) (fop BinOp.mul FloatKind.f32 (zgp q04 (pF q0a 0 (muN q04 1)) q05 (pF q0c 0 (muN q05 1)) q06 (pF q0b 0 (muN q06 1)) (fop BinOp.sub FloatKind.f32 (fop BinOp.sub FloatKind.f32 q15 (gF q0h (Nat.succ (Nat.succ (ixO 0 i 3))))) q0o)) (z62 (fop BinOp.add FloatKind.f32 q15 1048576000))))))))))
noncomputable def zau (q04 : Nat) (q0a : List Nat) (q05 : Nat) (q0c : List Nat) (q06 : Nat) (q0b : List Nat) (q0e : Nat) (q0h : List Nat) (q0l : Int) (q0n : Nat) (q0m : Nat) (i : Int) (q15 : Nat) (q0o : Nat) : Option (Nat × Nat) := zcx q04 q0a q05 q0c q06 q0b q0e q0h q0l q0n q0m i q15 q0o (fun c0_ c1_ => some (c0_, c1_))
theorem zqw {R R' : Type} (o : Option R → Option R') (h0 : o none = none) (q04 : Nat) (q0a : List Nat) (q05 : Nat) (q0c : List Nat) (q06 : Nat) (q0b : List Nat) (q0e : Nat) (q0h : List Nat) (q0l : Int) (q0n : Nat) (q0m : Nat) (i : Int) (q15 : Nat) (q0o : Nat) (k_ : Nat → Nat → Option R) : zcx q04 q0a q05 q0c q06 q0b q0e q0h q0l q0n q0m i q15 q0o (fun c0_ c1_ => o (k_ c0_ c1_)) = o (zcx q04 q0a q05 q0c q06 q0b q0e q0h q0l q0n q0m i q15 q0o k_) := by
  unfold zcx
  repeat (first | refine grd_out h0 ?_ | refine br_out ?_ ?_ | rfl | exact h0.symm)
noncomputable def zju (q04 : Nat) (q0a : List Nat) (q05 : Nat) (q0c : List Nat) (q06 : Nat) (q0b : List Nat) (q0e : Nat) (q0h : List Nat) (q0l : Int) (q0n : Nat) (q0m : Nat) (i : Int) (q15 : Nat) (q0o : Nat) : Bool := (zau q04 q0a q05 q0c q06 q0b q0e q0h q0l q0n q0m i q15 q0o).isSome
noncomputable def ze9 (q04 : Nat) (q0a : List Nat) (q05 : Nat) (q0c : List Nat) (q06 : Nat) (q0b : List Nat) (q0e : Nat) (q0h : List Nat) (q0l : Int) (q0n : Nat) (q0m : Nat) (i : Int) (q15 : Nat) (q0o : Nat) : Nat := ((zau q04 q0a q05 q0c q06 q0b q0e q0h q0l q0n q0m i q15 q0o).getD default).1
noncomputable def zeb (q04 : Nat) (q0a : List Nat) (q05 : Nat) (q0c : List Nat) (q06 : Nat) (q0b : List Nat) (q0e : Nat) (q0h : List Nat) (q0l : Int) (q0n : Nat) (q0m : Nat) (i : Int) (q15 : Nat) (q0o : Nat) : Nat := ((zau q04 q0a q05 q0c q06 q0b q0e q0h q0l q0n q0m i q15 q0o).getD default).2
theorem zu1 {q04 : Nat} {q0a : List Nat} {q05 : Nat} {q0c : List Nat} {q06 : Nat} {q0b : List Nat} {q0e : Nat} {q0h : List Nat} {q0l : Int} {q0n : Nat} {q0m : Nat} {i : Int} {q15 : Nat} {q0o : Nat} {r : Nat × Nat} (h : zau q04 q0a q05 q0c q06 q0b q0e q0h q0l q0n q0m i q15 q0o = some r) : zju q04 q0a q05 q0c q06 q0b q0e q0h q0l q0n q0m i q15 q0o = true ∧ ze9 q04 q0a q05 q0c q06 q0b q0e q0h q0l q0n q0m i q15 q0o = r.1 ∧ zeb q04 q0a q05 q0c q06 q0b q0e q0h q0l q0n q0m i q15 q0o = r.2 := by
  unfold zju ze9 zeb
  rw [h]
  exact ⟨rfl, rfl, rfl⟩
noncomputable def zaf {R : Type} (q04 : Nat) (q0a : List Nat) (q05 : Nat) (q0c : List Nat) (q06 : Nat) (q0b : List Nat) (q0e : Nat) (q0h : List Nat) (q0l : Int) (q0n : Nat) (q0m : Nat) (i : Int) (q15 : Nat) (q0o : Nat) (k_ : Nat → Nat → Option R) : Option R := (grd (zcm q04 (pF q0a 0 (muN q04 1)) q05 (pF q0c 0 (muN q05 1)) q06 (pF q0b 0 (muN q06 1)) q0e (pF q0h 0 (muN q0e 3)) q0l q0n q0m i q15 q0o) (grd (z8m q15) (grd (z8m (fop BinOp.add FloatKind.f32 q15 1048576000)) (grd (zdu q04 (pF q0a 0 (muN q04 1)) q05 (pF q0c 0 (muN q05 1)) q06 (pF q0b 0 (muN q06 1)) q0e (pF q0h 0 (muN q0e 3)) q0l q0n q0m i) (grd (zdt q04 (pF q0a 0 (muN q04 1)) q05 (pF q0c 0 (muN q05 1)) q06 (pF q0b 0 (muN q06 1)) q0e (pF q0h 0 (muN q0e 3)) q0l q0n q0m i q15) (k_ (fop BinOp.quo FloatKind.f32 (fop BinOp.mul FloatKind.f32 (zal q04 (pF q0a 0 (muN q04 1)) q05 (pF q0c 0 (muN q05 1)) q06 (pF q0b 0 (muN q06 1)) q0e (pF q0h 0 (muN q0e 3)) q0l q0n q0m i) (z8d q04 (pF q0a 0 (muN q04 1)) q05 (pF q0c 0 (muN q05 1)) q06 (pF q0b 0 (muN q06 1)) q0e (pF q0h 0 (muN q0e 3)) q0l q0n q0m i q15 q0o)) (fop BinOp.mul FloatKind.f32 (fop BinOp.mul FloatKind.f32 (fop BinOp.mul FloatKind.f32 1082130432 (zak q04 (pF q0a 0 (muN q04 1)) q05 (pF q0c 0 (muN q05 1)) q06 (pF q0b 0 (muN q06 1)) q0e (pF q0h 0 (muN q0e 3)) q0l q0n q0m i q15)) (z63 q15)) (z63 q15))) (fop BinOp.quo FloatKind.f32 (fop BinOp.mul FloatKind.f32 (zal q04 (pF q0a 0 (muN q04 1)) q05 (pF q0c 0 (muN q05 1)) q06 (pF q0b 0 (muN q06 1)) q0e (pF q0h 0 (muN q0e 3)) q0l q0n q0m i) (z8f q04 (pF q0a 0 (muN q04 1)) q05 (pF q0c 0 (muN q05 1)) q06 (pF q0b 0 (muN q06 1)) q0e (pF q0h 0 (muN q0e 3)) q0l q0n q0m i q15 q0o)) (fop BinOp.mul FloatKind.f32 (fop BinOp.mul FloatKind.f32 (fop BinOp.mul FloatKind.f32 1082130432 (zak q04 (pF q0a 0 (muN q04 1)) q05 (pF q0c 0 (muN q05 1)) q06 (pF q0b 0 (muN q06 1)) q0e (pF q0h 0 (muN q0e 3)) q0l q0n q0m i q15)) (z63 q15)) (z63 (fop BinOp.add FloatKind.f32 q15 1048576000))))))))))
noncomputable def z9a (q04 : Nat) (q0a : List Nat) (q05 : Nat) (q0c : List Nat) (q06 : Nat) (q0b : List Nat) (q0e : Nat) (q0h : List Nat) (q0l : Int) (q0n : Nat) (q0m : Nat) (i : Int) (q15 : Nat) (q0o : Nat) : Option (Nat × Nat) := zaf q04 q0a q05 q0c q06 q0b q0e q0h q0l q0n q0m i q15 q0o (fun c0_ c1_ => some (c0_, c1_))
theorem zoa {R R' : Type} (o : Option R → Option R') (h0 : o none = none) (q04 : Nat) (q0a : List Nat) (q05 : Nat) (q0c : List Nat) (q06 : Nat) (q0b : List Nat) (q0e : Nat) (q0h : List Nat) (q0l : Int) (q0n : Nat) (q0m : Nat) (i : Int) (q15 : Nat) (q0o : Nat) (k_ : Nat → Nat → Option R) : zaf q04 q0a q05 q0c q06 q0b q0e q0h q0l q0n q0m i q15 q0o (fun c0_ c1_ => o (k_ c0_ c1_)) = o (zaf q04 q0a q05 q0c q06 q0b q0e q0h q0l q0n q0m i q15 q0o k_) := by
  unfold zaf
  repeat (first | refine grd_out h0 ?_ | refine br_out ?_ ?_ | rfl | exact h0.symm)
noncomputable def zcn (q04 : Nat) (q0a : List Nat) (q05 : Nat) (q0c : List Nat) (q06 : Nat) (q0b : List Nat) (q0e : Nat) (q0h : List Nat) (q0l : Int) (q0n : Nat) (q0m : Nat) (i : Int) (q15 : Nat) (q0o : Nat) : Bool := (z9a q04 q0a q05 q0c q06 q0b q0e q0h q0l q0n q0m i q15 q0o).isSome
noncomputable def z1r (q04 : Nat) (q0a : List Nat) (q05 : Nat) (q0c : List Nat) (q06 : Nat) (q0b : List Nat) (q0e : Nat) (q0h : List Nat) (q0l : Int) (q0n : Nat) (q0m : Nat) (i : Int) (q15 : Nat) (q0o : Nat) : Nat := ((z9a q04 q0a q05 q0c q06 q0b q0e q0h q0l q0n q0m i q15 q0o).getD default).1
noncomputable def z1t (q04 : Nat) (q0a : List Nat) (q05 : Nat) (q0c : List Nat) (q06 : Nat) (q0b : List Nat) (q0e : Nat) (q0h : List Nat) (q0l : Int) (q0n : Nat) (q0m : Nat) (i : Int) (q15 : Nat) (q0o : Nat) : Nat := ((z9a q04 q0a q05 q0c q06 q0b q0e q0h q0l q0n q0m i q15 q0o).getD default).2
theorem zmc {q04 : Nat} {q0a : List Nat} {q05 : Nat} {q0c : List Nat} {q06 : Nat} {q0b : List Nat} {q0e : Nat} {q0h : List Nat} {q0l : Int} {q0n : Nat} {q0m : Nat} {i : Int} {q15 : Nat} {q0o : Nat} {r : Nat × Nat} (h : z9a q04 q0a q05 q0c q06 q0b q0e q0h q0l q0n q0m i q15 q0o = some r) : zcn q04 q0a q05 q0c q06 q0b q0e q0h q0l q0n q0m i q15 q0o = true ∧ z1r q04 q0a q05 q0c q06 q0b q0e q0h q0l q0n q0m i q15 q0o = r.1 ∧ z1t q04 q0a q05 q0c q06 q0b q0e q0h q0l q0n q0m i q15 q0o = r.2 := by
  unfold zcn z1r z1t
  rw [h]
  exact ⟨rfl, rfl, rfl⟩
noncomputable def z7i {R : Type} (q2g : Nat) (t44 : Int) (b3 : List Nat) (q1b : Nat) (t4 : Nat) (t45 : Int) (kn_ : Nat → Int → Option R) (k0_ : Unit → Option R) (k1_ : Nat → Int → Bool → Option R) : Option R := (br (ltI t45 t44) (grd (okIx t45 q2g) (br (fcmp BinOp.gtr FloatKind.f32 (gF b3 (ixO 0 t45 3)) t4) (br (bnot (fcmp BinOp.lss FloatKind.f32 (gF b3 (ixO 0 t45 3)) q1b)) (k0_ ()) (grd (z9m 1 (pF [(gF b3 (Nat.succ (ixO 0 t45 3)))] 0 (muN 1 1))) (br (bnot (z9b 1 (pF [(gF b3 (Nat.succ (ixO 0 t45 3)))] 0 (muN 1 1)))) (k0_ ()) (grd (z77 (gF b3 (Nat.succ (Nat.succ (ixO 0 t45 3))))) (br (bnot (z6q (gF b3 (Nat.succ (Nat.succ (ixO 0 t45 3)))))) (k0_ ()) (kn_ (gF b3 (ixO 0 t45 3)) (addI IntKind.i64 t45 1))))))) (br (bnot Bool.false) (k0_ ()) (grd (z9m 1 (pF [(gF b3 (Nat.succ (ixO 0 t45 3)))] 0 (muN 1 1))) (br (bnot (z9b 1 (pF [(gF b3 (Nat.succ (ixO 0 t45 3)))] 0 (muN 1 1)))) (k0_ ()) (grd (z77 (gF b3 (Nat.succ (Nat.succ (ixO 0 t45 3))))) (br (bnot (z6q (gF b3 (Nat.succ (Nat.succ (ixO 0 t45 3)))))) (k0_ ()) (kn_ (gF b3 (ixO 0 t45 3)) (addI IntKind.i64 t45 1))))))))) (k1_ t4 t45 (ltI t45 t44)))
theorem znm {R R' : Type} (o : Option R → Option R') (h0 : o none = none) (q2g : Nat) (t44 : Int) (b3 : List Nat) (q1b : Nat) (t4 : Nat) (t45 : Int) (kn_ : Nat → Int → Option R) (k0_ : Unit → Option R) (k1_ : Nat → Int → Bool → Option R) : z7i q2g t44 b3 q1b t4 t45 (fun t4' t45' => o (kn_ t4' t45')) (fun _ => o (k0_ ())) (fun c0_ c1_ c2_ => o (k1_ c0_ c1_ c2_)) = o (z7i q2g t44 b3 q1b t4 t45 kn_ k0_ k1_) := by
  unfold z7i
  repeat (first | refine grd_out h0 ?_ | refine br_out ?_ ?_ | rfl | exact h0.symm)
noncomputable def z2t (q2g : Nat) (t44 : Int) (b3 : List Nat) (q1b : Nat) : Nat → Nat → Int → Option ((Unit) ⊕ (Nat × Int × Bool))
  | 0, _, _ => none
  | n + 1, t4, t45 => z7i q2g t44 b3 q1b  t4 t45  (fun t4' t45' => z2t q2g t44 b3 q1b n t4' t45') (fun _ => some (Sum.inl ())) (fun c0_ c1_ c2_ => some (Sum.inr (c0_, c1_, c2_)))
theorem zkh (q2g : Nat) (t44 : Int) (b3 : List Nat) (q1b : Nat) (n : Nat) (t4 : Nat) (t45 : Int) : z2t q2g t44 b3 q1b (n + 1) t4 t45 = z7i q2g t44 b3 q1b  t4 t45  (fun t4' t45' => z2t q2g t44 b3 q1b n t4' t45') (fun _ => some (Sum.inl ())) (fun c0_ c1_ c2_ => some (Sum.inr (c0_, c1_, c2_))) := rfl
noncomputable def z8w (q2g : Nat) (t44 : Int) (b3 : List Nat) (q1b : Nat) (t4 : Nat) (t45 : Int) : Bool := (z2t q2g t44 b3 q1b big t4 t45).isSome
noncomputable def z8t (q2g : Nat) (t44 : Int) (b3 : List Nat) (q1b : Nat) (t4 : Nat) (t45 : Int) : Bool := oL (z2t q2g t44 b3 q1b big t4 t45)
noncomputable def zg7 (q2g : Nat) (t44 : Int) (b3 : List Nat) (q1b : Nat) (t4 : Nat) (t45 : Int) : Nat := ((tR (z2t q2g t44 b3 q1b big t4 t45)).getD default).1
noncomputable def zfw (q2g : Nat) (t44 : Int) (b3 : List Nat) (q1b : Nat) (t4 : Nat) (t45 : Int) : Int := ((tR (z2t q2g t44 b3 q1b big t4 t45)).getD default).2.1
noncomputable def zfx (q2g : Nat) (t44 : Int) (b3 : List Nat) (q1b : Nat) (t4 : Nat) (t45 : Int) : Bool := ((tR (z2t q2g t44 b3 q1b big t4 t45)).getD default).2.2
theorem zp1 {q2g : Nat} {t44 : Int} {b3 : List Nat} {q1b : Nat} {t4 : Nat} {t45 : Int} {m : Nat} {r : Unit} (hm : m = big) (h : z2t q2g t44 b3 q1b m t4 t45 = some (Sum.inl r)) : z8w q2g t44 b3 q1b t4 t45 = true ∧ z8t q2g t44 b3 q1b t4 t45 = true := by
  subst hm
  unfold z8w z8t
  rw [h]
  exact ⟨rfl, rfl⟩
theorem zow {q2g : Nat} {t44 : Int} {b3 : List Nat} {q1b : Nat} {t4 : Nat} {t45 : Int} {m : Nat} {r : Nat × Int × Bool} (hm : m = big) (h : z2t q2g t44 b3 q1b m t4 t45 = some (Sum.inr r)) : z8w q2g t44 b3 q1b t4 t45 = true ∧ z8t q2g t44 b3 q1b t4 t45 = false ∧ zg7 q2g t44 b3 q1b t4 t45 = r.1 ∧ zfw q2g t44 b3 q1b t4 t45 = r.2.1 ∧ zfx q2g t44 b3 q1b t4 t45 = r.2.2 := by
  subst hm
  unfold z8w z8t zg7 zfw zfx
  rw [h]
  exact ⟨rfl, rfl, rfl, rfl, rfl⟩
noncomputable def zca {R : Type} (q00 : Nat) (q07 : List Nat) (q01 : Nat) (q09 : List Nat) (q02 : Nat) (q08 : List Nat) (q03 : Nat) (q0d : List Nat) (q0g : Int) (q0i : Nat) (q0j : Nat) (k_ : Bool → Option R) : Option R := (grd (zfq q00 (pF q07 0 (muN q00 1)) q01 (pF q09 0 (muN q01 1)) q02 (pF q08 0 (muN q02 1))) (br (bnot (zei q00 (pF q07 0 (muN q00 1)) q01 (pF q09 0 (muN q01 1)) q02 (pF q08 0 (muN q02 1)))) (k_ Bool.false) (grd (zk1 q0g 1 6) (br (bnot (zj4 q0g 1 6)) (k_ Bool.false) (br (ltI (Int.ofNat q03) 2) (k_ Bool.false) (br (ltI 12 (Int.ofNat q03)) (k_ Bool.false) (grd (ziv q0i) (br (bnot (zh2 q0i)) (k_ Bool.false) (grd (z77 q0j) (br (bnot (z6q q0j)) (k_ Bool.false) (grd (z8w q03 (Int.ofNat q03) q0d q0j q0i 0) (br (z8t q03 (Int.ofNat q03) q0d q0j q0i 0) (k_ Bool.false) (k_ Bool.true)))))))))))))
end Go.Rf
