import Derived.Test.YtihlcjjbenkokaaB
set_option linter.unusedVariables false
set_option linter.unusedSimpArgs false
set_option maxRecDepth 100000
set_option maxHeartbeats 4000000
namespace Go.Rf
open Go
noncomputable def zdr {R : Type} (a : Nat) (b : Nat) (k_ : Bool → Option R) : Option R := (br (fcmp BinOp.neq FloatKind.f64 a a) (br (fcmp BinOp.neq FloatKind.f64 a a) (k_ (fcmp BinOp.neq FloatKind.f64 b b)) (k_ Bool.false)) (br (fcmp BinOp.neq FloatKind.f64 b b) (br (fcmp BinOp.neq FloatKind.f64 a a) (k_ (fcmp BinOp.neq FloatKind.f64 b b)) (k_ Bool.false)) (br (fcmp BinOp.eql FloatKind.f64 a 0) (br (fcmp BinOp.eql FloatKind.f64 b 0) (k_ (beqB (fcmp BinOp.gtr FloatKind.f64 (fop BinOp.quo FloatKind.f64 4607182418800017408 a) 0) (fcmp BinOp.gtr FloatKind.f64 (fop BinOp.quo FloatKind.f64 4607182418800017408 b) 0))) (k_ (fcmp BinOp.eql FloatKind.f64 a b))) (k_ (fcmp BinOp.eql FloatKind.f64 a b)))))
noncomputable def ze2 (a : Nat) (b : Nat) : Option (Bool) := zdr a b (fun c0_ => some c0_)
theorem zpx {R R' : Type} (o : Option R → Option R') (h0 : o none = none) (a : Nat) (b : Nat) (k_ : Bool → Option R) : zdr a b (fun c0_ => o (k_ c0_)) = o (zdr a b k_) := by
  unfold zdr
  repeat (first | refine grd_out h0 ?_ | refine br_out ?_ ?_ | rfl | exact h0.symm)
noncomputable def z9j (a : Nat) (b : Nat) : Bool := (ze2 a b).isSome
noncomputable def z97 (a : Nat) (b : Nat) : Bool := ((ze2 a b).getD default)
theorem z9y {a : Nat} {b : Nat} {r : Bool} (h : ze2 a b = some r) : z9j a b = true ∧ z97 a b = r := by
  unfold z9j z97
  rw [h]
  exact ⟨rfl, rfl⟩
noncomputable def zfk {R : Type} (q2g : Nat) (q2o : Nat) (q2p : Nat) (k_ : Unit → Option R) : Option R := (k_ ())
noncomputable def znm (q2g : Nat) (q2o : Nat) (q2p : Nat) : Option (Unit) := zfk q2g q2o q2p (fun _ => some ())
theorem zqb {R R' : Type} (o : Option R → Option R') (h0 : o none = none) (q2g : Nat) (q2o : Nat) (q2p : Nat) (k_ : Unit → Option R) : zfk q2g q2o q2p (fun _ => o (k_ ())) = o (zfk q2g q2o q2p k_) := by
  unfold zfk
  repeat (first | refine grd_out h0 ?_ | refine br_out ?_ ?_ | rfl | exact h0.symm)
noncomputable def zmi (q2g : Nat) (q2o : Nat) (q2p : Nat) : Bool := (znm q2g q2o q2p).isSome
noncomputable def zdb {R : Type} (a_n : Nat) (a : List Nat) (q2c : Int) (k_ : Int → Option R) : Option R := (br (ltI (subI IntKind.i64 q2c (Int.ofNat a_n)) 0) (k_ (Int.negSucc 0)) (k_ (subI IntKind.i64 q2c (Int.ofNat a_n))))
noncomputable def zcx (a_n : Nat) (a : List Nat) (q2c : Int) : Option (Int) := zdb a_n a q2c (fun c0_ => some c0_)
theorem zp7 {R R' : Type} (o : Option R → Option R') (h0 : o none = none) (a_n : Nat) (a : List Nat) (q2c : Int) (k_ : Int → Option R) : zdb a_n a q2c (fun c0_ => o (k_ c0_)) = o (zdb a_n a q2c k_) := by
  unfold zdb
  repeat (first | refine grd_out h0 ?_ | refine br_out ?_ ?_ | rfl | exact h0.symm)
noncomputable def zd3 (a_n : Nat) (a : List Nat) (q2c : Int) : Bool := (zcx a_n a q2c).isSome
noncomputable def z5n (a_n : Nat) (a : List Nat) (q2c : Int) : Int := ((zcx a_n a q2c).getD default)
theorem zls {a_n : Nat} {a : List Nat} {q2c : Int} {r : Int} (h : zcx a_n a q2c = some r) : zd3 a_n a q2c = true ∧ z5n a_n a q2c = r := by
  unfold zd3 z5n
  rw [h]
  exact ⟨rfl, rfl⟩
noncomputable def zh1 {R : Type} (x : Nat) (k_ : Bool → Option R) : Option R := (k_ (fcmp BinOp.eql FloatKind.f32 (fop BinOp.sub FloatKind.f32 x x) 0))
noncomputable def zh2 (x : Nat) : Option (Bool) := zh1 x (fun c0_ => some c0_)
theorem zqw {R R' : Type} (o : Option R → Option R') (h0 : o none = none) (x : Nat) (k_ : Bool → Option R) : zh1 x (fun c0_ => o (k_ c0_)) = o (zh1 x k_) := by
  unfold zh1
  repeat (first | refine grd_out h0 ?_ | refine br_out ?_ ?_ | rfl | exact h0.symm)
noncomputable def za0 (x : Nat) : Bool := (zh2 x).isSome
noncomputable def z9i (x : Nat) : Bool := ((zh2 x).getD default)
theorem zfl {x : Nat} {r : Bool} (h : zh2 x = some r) : za0 x = true ∧ z9i x = r := by
  unfold za0 z9i
  rw [h]
  exact ⟨rfl, rfl⟩
noncomputable def zfb {R : Type} (x : Nat) (k_ : Bool → Option R) : Option R := (k_ (fcmp BinOp.eql FloatKind.f32 (fop BinOp.sub FloatKind.f32 x x) 0))
noncomputable def zfc (x : Nat) : Option (Bool) := zfb x (fun c0_ => some c0_)
theorem zqi {R R' : Type} (o : Option R → Option R') (h0 : o none = none) (x : Nat) (k_ : Bool → Option R) : zfb x (fun c0_ => o (k_ c0_)) = o (zfb x k_) := by
  unfold zfb
  repeat (first | refine grd_out h0 ?_ | refine br_out ?_ ?_ | rfl | exact h0.symm)
noncomputable def z81 (x : Nat) : Bool := (zfc x).isSome
noncomputable def z7p (x : Nat) : Bool := ((zfc x).getD default)
theorem zel {x : Nat} {r : Bool} (h : zfc x = some r) : z81 x = true ∧ z7p x = r := by
  unfold z81 z7p
  rw [h]
  exact ⟨rfl, rfl⟩
noncomputable def zk4 {R : Type} (n_ : Int) (low : Int) (q2v : Int) (k_ : Bool → Option R) : Option R := (br (leI low n_) (k_ (leI n_ q2v)) (k_ Bool.false))
noncomputable def zkf (n_ : Int) (low : Int) (q2v : Int) : Option (Bool) := zk4 n_ low q2v (fun c0_ => some c0_)
theorem zsk {R R' : Type} (o : Option R → Option R') (h0 : o none = none) (n_ : Int) (low : Int) (q2v : Int) (k_ : Bool → Option R) : zk4 n_ low q2v (fun c0_ => o (k_ c0_)) = o (zk4 n_ low q2v k_) := by
  unfold zk4
  repeat (first | refine grd_out h0 ?_ | refine br_out ?_ ?_ | rfl | exact h0.symm)
noncomputable def zml (n_ : Int) (low : Int) (q2v : Int) : Bool := (zkf n_ low q2v).isSome
noncomputable def zmg (n_ : Int) (low : Int) (q2v : Int) : Bool := ((zkf n_ low q2v).getD default)
theorem ztf {n_ : Int} {low : Int} {q2v : Int} {r : Bool} (h : zkf n_ low q2v = some r) : zml n_ low q2v = true ∧ zmg n_ low q2v = r := by
  unfold zml zmg
  rw [h]
  exact ⟨rfl, rfl⟩
noncomputable def zgu {R : Type} (q12 : Nat) (q1r : List Nat) (q1c : Nat) (q26 : List Nat) (q1b : Nat) (q25 : List Nat) (k_ : Nat → Nat → Nat → (List Nat) → (List Nat) → (List Nat) → Option R) : Option R := (grd (okA2 0 q12 4 (nF (pF q1r 0 (muN q12 1))) (nF []) 1) (grd (okA2 0 q1c 4 (nF (pF q26 0 (muN q1c 1))) (nF []) 1) (grd (okA2 0 q1b 4 (nF (pF q25 0 (muN q1b 1))) (nF []) 1) (k_ (adN 0 q12) (adN 0 q1c) (adN 0 q1b) (aF [] (pF q1r 0 (muN q12 1))) (aF [] (pF q26 0 (muN q1c 1))) (aF [] (pF q25 0 (muN q1b 1)))))))
noncomputable def z9u (q12 : Nat) (q1r : List Nat) (q1c : Nat) (q26 : List Nat) (q1b : Nat) (q25 : List Nat) : Option (Nat × Nat × Nat × (List Nat) × (List Nat) × (List Nat)) := zgu q12 q1r q1c q26 q1b q25 (fun c0_ c1_ c2_ c3_ c4_ c5_ => some (c0_, c1_, c2_, c3_, c4_, c5_))
theorem zrx {R R' : Type} (o : Option R → Option R') (h0 : o none = none) (q12 : Nat) (q1r : List Nat) (q1c : Nat) (q26 : List Nat) (q1b : Nat) (q25 : List Nat) (k_ : Nat → Nat → Nat → (List Nat) → (List Nat) → (List Nat) → Option R) : zgu q12 q1r q1c q26 q1b q25 (fun c0_ c1_ c2_ c3_ c4_ c5_ => o (k_ c0_ c1_ c2_ c3_ c4_ c5_)) = o (zgu q12 q1r q1c q26 q1b q25 k_) := by
  unfold zgu
  repeat (first | refine grd_out h0 ?_ | refine br_out ?_ ?_ | rfl | exact h0.symm)
noncomputable def zmh (q12 : Nat) (q1r : List Nat) (q1c : Nat) (q26 : List Nat) (q1b : Nat) (q25 : List Nat) : Bool := (z9u q12 q1r q1c q26 q1b q25).isSome
noncomputable def zm2 (q12 : Nat) (q1r : List Nat) (q1c : Nat) (q26 : List Nat) (q1b : Nat) (q25 : List Nat) : Nat := ((z9u q12 q1r q1c q26 q1b q25).getD default).1
noncomputable def zm4 (q12 : Nat) (q1r : List Nat) (q1c : Nat) (q26 : List Nat) (q1b : Nat) (q25 : List Nat) : Nat := ((z9u q12 q1r q1c q26 q1b q25).getD default).2.1
noncomputable def zm5 (q12 : Nat) (q1r : List Nat) (q1c : Nat) (q26 : List Nat) (q1b : Nat) (q25 : List Nat) : Nat := ((z9u q12 q1r q1c q26 q1b q25).getD default).2.2.1
noncomputable def zlz (q12 : Nat) (q1r : List Nat) (q1c : Nat) (q26 : List Nat) (q1b : Nat) (q25 : List Nat) : List Nat := ((z9u q12 q1r q1c q26 q1b q25).getD default).2.2.2.1
noncomputable def zm0 (q12 : Nat) (q1r : List Nat) (q1c : Nat) (q26 : List Nat) (q1b : Nat) (q25 : List Nat) : List Nat := ((z9u q12 q1r q1c q26 q1b q25).getD default).2.2.2.2.1
noncomputable def zm1 (q12 : Nat) (q1r : List Nat) (q1c : Nat) (q26 : List Nat) (q1b : Nat) (q25 : List Nat) : List Nat := ((z9u q12 q1r q1c q26 q1b q25).getD default).2.2.2.2.2
theorem ztb {q12 : Nat} {q1r : List Nat} {q1c : Nat} {q26 : List Nat} {q1b : Nat} {q25 : List Nat} {r : Nat × Nat × Nat × (List Nat) × (List Nat) × (List Nat)} (h : z9u q12 q1r q1c q26 q1b q25 = some r) : zmh q12 q1r q1c q26 q1b q25 = true ∧ zm2 q12 q1r q1c q26 q1b q25 = r.1 ∧ zm4 q12 q1r q1c q26 q1b q25 = r.2.1 ∧ zm5 q12 q1r q1c q26 q1b q25 = r.2.2.1 ∧ zlz q12 q1r q1c q26 q1b q25 = r.2.2.2.1 ∧ zm0 q12 q1r q1c q26 q1b q25 = r.2.2.2.2.1 ∧ zm1 q12 q1r q1c q26 q1b q25 = r.2.2.2.2.2 := by
  unfold zmh zm2 zm4 zm5 zlz zm0 zm1
  rw [h]
  exact ⟨rfl, rfl, rfl, rfl, rfl, rfl, rfl⟩
noncomputable def zgs {R : Type} (n_ : Int) (low : Int) (q2v : Int) (k_ : Bool → Option R) : Option R := (br (leI low n_) (k_ (leI n_ q2v)) (k_ Bool.false))
noncomputable def zgt (n_ : Int) (low : Int) (q2v : Int) : Option (Bool) := zgs n_ low q2v (fun c0_ => some c0_)
theorem zs0 {R R' : Type} (o : Option R → Option R') (h0 : o none = none) (n_ : Int) (low : Int) (q2v : Int) (k_ : Bool → Option R) : zgs n_ low q2v (fun c0_ => o (k_ c0_)) = o (zgs n_ low q2v k_) := by
  unfold zgs
  repeat (first | refine grd_out h0 ?_ | refine br_out ?_ ?_ | rfl | exact h0.symm)
noncomputable def zmf (n_ : Int) (low : Int) (q2v : Int) : Bool := (zgt n_ low q2v).isSome
noncomputable def zm3 (n_ : Int) (low : Int) (q2v : Int) : Bool := ((zgt n_ low q2v).getD default)
theorem zt9 {n_ : Int} {low : Int} {q2v : Int} {r : Bool} (h : zgt n_ low q2v = some r) : zmf n_ low q2v = true ∧ zm3 n_ low q2v = r := by
  unfold zmf zm3
  rw [h]
  exact ⟨rfl, rfl⟩
noncomputable def zd0 {R : Type} (a_n : Nat) (a : List Nat) (q2c : Int) (k_ : Int → Option R) : Option R := (br (ltI (subI IntKind.i64 q2c (Int.ofNat a_n)) 0) (k_ (Int.negSucc 0)) (k_ (subI IntKind.i64 q2c (Int.ofNat a_n))))
noncomputable def zdh (a_n : Nat) (a : List Nat) (q2c : Int) : Option (Int) := zd0 a_n a q2c (fun c0_ => some c0_)
theorem zpm {R R' : Type} (o : Option R → Option R') (h0 : o none = none) (a_n : Nat) (a : List Nat) (q2c : Int) (k_ : Int → Option R) : zd0 a_n a q2c (fun c0_ => o (k_ c0_)) = o (zd0 a_n a q2c k_) := by
  unfold zd0
  repeat (first | refine grd_out h0 ?_ | refine br_out ?_ ?_ | rfl | exact h0.symm)
noncomputable def zju (a_n : Nat) (a : List Nat) (q2c : Int) : Bool := (zdh a_n a q2c).isSome
noncomputable def ze8 (a_n : Nat) (a : List Nat) (q2c : Int) : Int := ((zdh a_n a q2c).getD default)
theorem zrg {a_n : Nat} {a : List Nat} {q2c : Int} {r : Int} (h : zdh a_n a q2c = some r) : zju a_n a q2c = true ∧ ze8 a_n a q2c = r := by
  unfold zju ze8
  rw [h]
  exact ⟨rfl, rfl⟩
noncomputable def zej {R : Type} (x : Nat) (low : Nat) (q2v : Nat) (k_ : Bool → Option R) : Option R := (br (fcmp BinOp.geq FloatKind.f32 x low) (k_ (fcmp BinOp.leq FloatKind.f32 x q2v)) (k_ Bool.false))
noncomputable def zea (x : Nat) (low : Nat) (q2v : Nat) : Option (Bool) := zej x low q2v (fun c0_ => some c0_)
theorem zr2 {R R' : Type} (o : Option R → Option R') (h0 : o none = none) (x : Nat) (low : Nat) (q2v : Nat) (k_ : Bool → Option R) : zej x low q2v (fun c0_ => o (k_ c0_)) = o (zej x low q2v k_) := by
  unfold zej
  repeat (first | refine grd_out h0 ?_ | refine br_out ?_ ?_ | rfl | exact h0.symm)
noncomputable def zli (x : Nat) (low : Nat) (q2v : Nat) : Bool := (zea x low q2v).isSome
noncomputable def zkz (x : Nat) (low : Nat) (q2v : Nat) : Bool := ((zea x low q2v).getD default)
theorem zsd {x : Nat} {low : Nat} {q2v : Nat} {r : Bool} (h : zea x low q2v = some r) : zli x low q2v = true ∧ zkz x low q2v = r := by
  unfold zli zkz
  rw [h]
  exact ⟨rfl, rfl⟩
noncomputable def z9f {R : Type} (s_n : Nat) (s : List Nat) (k_ : Nat → (List Nat) → Option R) : Option R := (unk (okZ s_n) (k_ 0 []) (grd (okA2 0 s_n 4 (nF (pF s 0 (muN s_n 1))) (nF []) 1) (k_ (adN 0 s_n) (aF [] (pF s 0 (muN s_n 1))))))
noncomputable def z88 (s_n : Nat) (s : List Nat) : Option (Nat × (List Nat)) := z9f s_n s (fun c0_ c1_ => some (c0_, c1_))
theorem zmw {R R' : Type} (o : Option R → Option R') (h0 : o none = none) (hi : ∀ a b, o a = o b → a = b) (s_n : Nat) (s : List Nat) (k_ : Nat → (List Nat) → Option R) : z9f s_n s (fun c0_ c1_ => o (k_ c0_ c1_)) = o (z9f s_n s k_) := by
  unfold z9f
  repeat (first | refine unk_out h0 hi ?_ ?_ | refine grd_out h0 ?_ | refine br_out ?_ ?_ | rfl | exact h0.symm)
noncomputable def z9e (s_n : Nat) (s : List Nat) : Bool := (z88 s_n s).isSome
noncomputable def z9a (s_n : Nat) (s : List Nat) : Nat := ((z88 s_n s).getD default).1
noncomputable def z99 (s_n : Nat) (s : List Nat) : List Nat := ((z88 s_n s).getD default).2
theorem zfh {s_n : Nat} {s : List Nat} {r : Nat × (List Nat)} (h : z88 s_n s = some r) : z9e s_n s = true ∧ z9a s_n s = r.1 ∧ z99 s_n s = r.2 := by
  unfold z9e z9a z99
  rw [h]
  exact ⟨rfl, rfl, rfl⟩
noncomputable def z5t {R : Type} (s_n : Nat) (s : List Nat) (k_ : Nat → (List Nat) → Option R) : Option R := (unk (okZ s_n) (k_ 0 []) (grd (okA2 0 s_n 12 (nF (pF s 0 (muN s_n 3))) (nF []) 3) (k_ (adN 0 s_n) (aF [] (pF s 0 (muN s_n 3))))))
noncomputable def z56 (s_n : Nat) (s : List Nat) : Option (Nat × (List Nat)) := z5t s_n s (fun c0_ c1_ => some (c0_, c1_))
theorem zgx {R R' : Type} (o : Option R → Option R') (h0 : o none = none) (hi : ∀ a b, o a = o b → a = b) (s_n : Nat) (s : List Nat) (k_ : Nat → (List Nat) → Option R) : z5t s_n s (fun c0_ c1_ => o (k_ c0_ c1_)) = o (z5t s_n s k_) := by
  unfold z5t
  repeat (first | refine unk_out h0 hi ?_ ?_ | refine grd_out h0 ?_ | refine br_out ?_ ?_ | rfl | exact h0.symm)
noncomputable def z7l (s_n : Nat) (s : List Nat) : Bool := (z56 s_n s).isSome
noncomputable def z7c (s_n : Nat) (s : List Nat) : Nat := ((z56 s_n s).getD default).1
noncomputable def z7g (s_n : Nat) (s : List Nat) : List Nat := ((z56 s_n s).getD default).2
theorem zk9 {s_n : Nat} {s : List Nat} {r : Nat × (List Nat)} (h : z56 s_n s = some r) : z7l s_n s = true ∧ z7c s_n s = r.1 ∧ z7g s_n s = r.2 := by
  unfold z7l z7c z7g
  rw [h]
  exact ⟨rfl, rfl, rfl⟩
noncomputable def zdt {R : Type} (q0t : Nat) (q0z : List Nat) (q0v : Nat) (q13 : List Nat) (q0w : Nat) (q15 : List Nat) (q2c : Int) (k_ : Int → Option R) : Option R := (grd (zd3 q0t (pF q0z 0 (muN q0t 1)) q2c) (br (ltI (z5n q0t (pF q0z 0 (muN q0t 1)) q2c) 0) (k_ (Int.negSucc 0)) (grd (zd3 q0v (pF q13 0 (muN q0v 1)) (z5n q0t (pF q0z 0 (muN q0t 1)) q2c)) (br (ltI (z5n q0v (pF q13 0 (muN q0v 1)) (z5n q0t (pF q0z 0 (muN q0t 1)) q2c)) 0) (k_ (Int.negSucc 0)) (grd (zd3 q0w (pF q15 0 (muN q0w 1)) (z5n q0v (pF q13 0 (muN q0v 1)) (z5n q0t (pF q0z 0 (muN q0t 1)) q2c))) (br (ltI (z5n q0w (pF q15 0 (muN q0w 1)) (z5n q0v (pF q13 0 (muN q0v 1)) (z5n q0t (pF q0z 0 (muN q0t 1)) q2c))) 0) (k_ (Int.negSucc 0)) (k_ (z5n q0w (pF q15 0 (muN q0w 1)) (z5n q0v (pF q13 0 (muN q0v 1)) (z5n q0t (pF q0z 0 (muN q0t 1)) q2c))))))))))
noncomputable def zdz (q0t : Nat) (q0z : List Nat) (q0v : Nat) (q13 : List Nat) (q0w : Nat) (q15 : List Nat) (q2c : Int) : Option (Int) := zdt q0t q0z q0v q13 q0w q15 q2c (fun c0_ => some c0_)
theorem zq8 {R R' : Type} (o : Option R → Option R') (h0 : o none = none) (q0t : Nat) (q0z : List Nat) (q0v : Nat) (q13 : List Nat) (q0w : Nat) (q15 : List Nat) (q2c : Int) (k_ : Int → Option R) : zdt q0t q0z q0v q13 q0w q15 q2c (fun c0_ => o (k_ c0_)) = o (zdt q0t q0z q0v q13 q0w q15 q2c k_) := by
  unfold zdt
  repeat (first | refine grd_out h0 ?_ | refine br_out ?_ ?_ | rfl | exact h0.symm)
noncomputable def zl1 (q0t : Nat) (q0z : List Nat) (q0v : Nat) (q13 : List Nat) (q0w : Nat) (q15 : List Nat) (q2c : Int) : Bool := (zdz q0t q0z q0v q13 q0w q15 q2c).isSome
noncomputable def zap (q0t : Nat) (q0z : List Nat) (q0v : Nat) (q13 : List Nat) (q0w : Nat) (q15 : List Nat) (q2c : Int) : Int := ((zdz q0t q0z q0v q13 q0w q15 q2c).getD default)
theorem zs4 {q0t : Nat} {q0z : List Nat} {q0v : Nat} {q13 : List Nat} {q0w : Nat} {q15 : List Nat} {q2c : Int} {r : Int} (h : zdz q0t q0z q0v q13 q0w q15 q2c = some r) : zl1 q0t q0z q0v q13 q0w q15 q2c = true ∧ zap q0t q0z q0v q13 q0w q15 q2c = r := by
  unfold zl1 zap
  rw [h]
  exact ⟨rfl, rfl⟩
noncomputable def zc8 {R : Type} (q12 : Nat) (q1r : List Nat) (q1c : Nat) (q26 : List Nat) (q1b : Nat) (q25 : List Nat) (k_ : Nat → Nat → Nat → (List Nat) → (List Nat) → (List Nat) → Option R) : Option R := (grd (z9e q12 (pF q1r 0 (muN q12 1))) (grd (z9e q1c (pF q26 0 (muN q1c 1))) (grd (z9e q1b (pF q25 0 (muN q1b 1))) (k_ (z9a q12 (pF q1r 0 (muN q12 1))) (z9a q1c (pF q26 0 (muN q1c 1))) (z9a q1b (pF q25 0 (muN q1b 1))) (z99 q12 (pF q1r 0 (muN q12 1))) (z99 q1c (pF q26 0 (muN q1c 1))) (z99 q1b (pF q25 0 (muN q1b 1)))))))
noncomputable def z6y (q12 : Nat) (q1r : List Nat) (q1c : Nat) (q26 : List Nat) (q1b : Nat) (q25 : List Nat) : Option (Nat × Nat × Nat × (List Nat) × (List Nat) × (List Nat)) := zc8 q12 q1r q1c q26 q1b q25 (fun c0_ c1_ c2_ c3_ c4_ c5_ => some (c0_, c1_, c2_, c3_, c4_, c5_))
theorem zp4 {R R' : Type} (o : Option R → Option R') (h0 : o none = none) (q12 : Nat) (q1r : List Nat) (q1c : Nat) (q26 : List Nat) (q1b : Nat) (q25 : List Nat) (k_ : Nat → Nat → Nat → (List Nat) → (List Nat) → (List Nat) → Option R) : zc8 q12 q1r q1c q26 q1b q25 (fun c0_ c1_ c2_ c3_ c4_ c5_ => o (k_ c0_ c1_ c2_ c3_ c4_ c5_)) = o (zc8 q12 q1r q1c q26 q1b q25 k_) := by
  unfold zc8
  repeat (first | refine grd_out h0 ?_ | refine br_out ?_ ?_ | rfl | exact h0.symm)
noncomputable def zhd (q12 : Nat) (q1r : List Nat) (q1c : Nat) (q26 : List Nat) (q1b : Nat) (q25 : List Nat) : Bool := (z6y q12 q1r q1c q26 q1b q25).isSome
noncomputable def zfu (q12 : Nat) (q1r : List Nat) (q1c : Nat) (q26 : List Nat) (q1b : Nat) (q25 : List Nat) : Nat := ((z6y q12 q1r q1c q26 q1b q25).getD default).1
noncomputable def zfv (q12 : Nat) (q1r : List Nat) (q1c : Nat) (q26 : List Nat) (q1b : Nat) (q25 : List Nat) : Nat := ((z6y q12 q1r q1c q26 q1b q25).getD default).2.1
noncomputable def zfx (q12 : Nat) (q1r : List Nat) (q1c : Nat) (q26 : List Nat) (q1b : Nat) (q25 : List Nat) : Nat := ((z6y q12 q1r q1c q26 q1b q25).getD default).2.2.1
noncomputable def zfw (q12 : Nat) (q1r : List Nat) (q1c : Nat) (q26 : List Nat) (q1b : Nat) (q25 : List Nat) : List Nat := ((z6y q12 q1r q1c q26 q1b q25).getD default).2.2.2.1
noncomputable def zfo (q12 : Nat) (q1r : List Nat) (q1c : Nat) (q26 : List Nat) (q1b : Nat) (q25 : List Nat) : List Nat := ((z6y q12 q1r q1c q26 q1b q25).getD default).2.2.2.2.1
noncomputable def zfz (q12 : Nat) (q1r : List Nat) (q1c : Nat) (q26 : List Nat) (q1b : Nat) (q25 : List Nat) : List Nat := ((z6y q12 q1r q1c q26 q1b q25).getD default).2.2.2.2.2
theorem zqy {q12 : Nat} {q1r : List Nat} {q1c : Nat} {q26 : List Nat} {q1b : Nat} {q25 : List Nat} {r : Nat × Nat × Nat × (List Nat) × (List Nat) × (List Nat)} (h : z6y q12 q1r q1c q26 q1b q25 = some r) : zhd q12 q1r q1c q26 q1b q25 = true ∧ zfu q12 q1r q1c q26 q1b q25 = r.1 ∧ zfv q12 q1r q1c q26 q1b q25 = r.2.1 ∧ zfx q12 q1r q1c q26 q1b q25 = r.2.2.1 ∧ zfw q12 q1r q1c q26 q1b q25 = r.2.2.2.1 ∧ zfo q12 q1r q1c q26 q1b q25 = r.2.2.2.2.1 ∧ zfz q12 q1r q1c q26 q1b q25 = r.2.2.2.2.2 := by
  unfold zhd zfu zfv zfx zfw zfo zfz
  rw [h]
  exact ⟨rfl, rfl, rfl, rfl, rfl, rfl, rfl⟩
noncomputable def zgr {R : Type} (q08 : Nat) (q0e : List Nat) (q09 : Nat) (q0g : List Nat) (q0a : Nat) (q0f : List Nat) (q0h : Nat) (q0i : List Nat) (q0n : Int) (q0s : Nat) (q0r : Nat) (k_ : Nat → Nat → Nat → Nat → (List Nat) → (List Nat) → (List Nat) → (List Nat) → Option R) : Option R := (grd (zmh q08 (pF q0e 0 (muN q08 1)) q09 (pF q0g 0 (muN q09 1)) q0a (pF q0f 0 (muN q0a 1))) (grd (okA2 0 q0h 12 (nF (pF q0i 0 (muN q0h 3))) (nF []) 3) (k_ (zm2 q08 (pF q0e 0 (muN q08 1)) q09 (pF q0g 0 (muN q09 1)) q0a (pF q0f 0 (muN q0a 1))) (zm4 q08 (pF q0e 0 (muN q08 1)) q09 (pF q0g 0 (muN q09 1)) q0a (pF q0f 0 (muN q0a 1))) (zm5 q08 (pF q0e 0 (muN q08 1)) q09 (pF q0g 0 (muN q09 1)) q0a (pF q0f 0 (muN q0a 1))) (adN 0 q0h) (zlz q08 (pF q0e 0 (muN q08 1)) q09 (pF q0g 0 (muN q09 1)) q0a (pF q0f 0 (muN q0a 1))) (zm0 q08 (pF q0e 0 (muN q08 1)) q09 (pF q0g 0 (muN q09 1)) q0a (pF q0f 0 (muN q0a 1))) (zm1 q08 (pF q0e 0 (muN q08 1)) q09 (pF q0g 0 (muN q09 1)) q0a (pF q0f 0 (muN q0a 1))) (aF [] (pF q0i 0 (muN q0h 3))))))
noncomputable def z8m (q08 : Nat) (q0e : List Nat) (q09 : Nat) (q0g : List Nat) (q0a : Nat) (q0f : List Nat) (q0h : Nat) (q0i : List Nat) (q0n : Int) (q0s : Nat) (q0r : Nat) : Option (Nat × Nat × Nat × Nat × (List Nat) × (List Nat) × (List Nat) × (List Nat)) := zgr q08 q0e q09 q0g q0a q0f q0h q0i q0n q0s q0r (fun c0_ c1_ c2_ c3_ c4_ c5_ c6_ c7_ => some (c0_, c1_, c2_, c3_, c4_, c5_, c6_, c7_))
theorem zs6 {R R' : Type} (o : Option R → Option R') (h0 : o none = none) (q08 : Nat) (q0e : List Nat) (q09 : Nat) (q0g : List Nat) (q0a : Nat) (q0f : List Nat) (q0h : Nat) (q0i : List Nat) (q0n : Int) (q0s : Nat) (q0r : Nat) (k_ : Nat → Nat → Nat → Nat → (List Nat) → (List Nat) → (List Nat) → (List Nat) → Option R) : zgr q08 q0e q09 q0g q0a q0f q0h q0i q0n q0s q0r (fun c0_ c1_ c2_ c3_ c4_ c5_ c6_ c7_ => o (k_ c0_ c1_ c2_ c3_ c4_ c5_ c6_ c7_)) = o (zgr q08 q0e q09 q0g q0a q0f q0h q0i q0n q0s q0r k_) := by
  unfold zgr
  repeat (first | refine grd_out h0 ?_ | refine br_out ?_ ?_ | rfl | exact h0.symm)
noncomputable def zme (q08 : Nat) (q0e : List Nat) (q09 : Nat) (q0g : List Nat) (q0a : Nat) (q0f : List Nat) (q0h : Nat) (q0i : List Nat) (q0n : Int) (q0s : Nat) (q0r : Nat) : Bool := (z8m q08 q0e q09 q0g q0a q0f q0h q0i q0n q0s q0r).isSome
noncomputable def zc4 (q08 : Nat) (q0e : List Nat) (q09 : Nat) (q0g : List Nat) (q0a : Nat) (q0f : List Nat) (q0h : Nat) (q0i : List Nat) (q0n : Int) (q0s : Nat) (q0r : Nat) : Nat := ((z8m q08 q0e q09 q0g q0a q0f q0h q0i q0n q0s q0r).getD default).1
noncomputable def zc7 (q08 : Nat) (q0e : List Nat) (q09 : Nat) (q0g : List Nat) (q0a : Nat) (q0f : List Nat) (q0h : Nat) (q0i : List Nat) (q0n : Int) (q0s : Nat) (q0r : Nat) : Nat := ((z8m q08 q0e q09 q0g q0a q0f q0h q0i q0n q0s q0r).getD default).2.1
noncomputable def zcf (q08 : Nat) (q0e : List Nat) (q09 : Nat) (q0g : List Nat) (q0a : Nat) (q0f : List Nat) (q0h : Nat) (q0i : List Nat) (q0n : Int) (q0s : Nat) (q0r : Nat) : Nat := ((z8m q08 q0e q09 q0g q0a q0f q0h q0i q0n q0s q0r).getD default).2.2.1
noncomputable def z6b (q08 : Nat) (q0e : List Nat) (q09 : Nat) (q0g : List Nat) (q0a : Nat) (q0f : List Nat) (q0h : Nat) (q0i : List Nat) (q0n : Int) (q0s : Nat) (q0r : Nat) : Nat := ((z8m q08 q0e q09 q0g q0a q0f q0h q0i q0n q0s q0r).getD default).2.2.2.1
noncomputable def zf4 (q08 : Nat) (q0e : List Nat) (q09 : Nat) (q0g : List Nat) (q0a : Nat) (q0f : List Nat) (q0h : Nat) (q0i : List Nat) (q0n : Int) (q0s : Nat) (q0r : Nat) : List Nat := ((z8m q08 q0e q09 q0g q0a q0f q0h q0i q0n q0s q0r).getD default).2.2.2.2.1
noncomputable def zf6 (q08 : Nat) (q0e : List Nat) (q09 : Nat) (q0g : List Nat) (q0a : Nat) (q0f : List Nat) (q0h : Nat) (q0i : List Nat) (q0n : Int) (q0s : Nat) (q0r : Nat) : List Nat := ((z8m q08 q0e q09 q0g q0a q0f q0h q0i q0n q0s q0r).getD default).2.2.2.2.2.1
noncomputable def zf8 (q08 : Nat) (q0e : List Nat) (q09 : Nat) (q0g : List Nat) (q0a : Nat) (q0f : List Nat) (q0h : Nat) (q0i : List Nat) (q0n : Int) (q0s : Nat) (q0r : Nat) : List Nat := ((z8m q08 q0e q09 q0g q0a q0f q0h q0i q0n q0s q0r).getD default).2.2.2.2.2.2.1
noncomputable def ze1 (q08 : Nat) (q0e : List Nat) (q09 : Nat) (q0g : List Nat) (q0a : Nat) (q0f : List Nat) (q0h : Nat) (q0i : List Nat) (q0n : Int) (q0s : Nat) (q0r : Nat) : List Nat := ((z8m q08 q0e q09 q0g q0a q0f q0h q0i q0n q0s q0r).getD default).2.2.2.2.2.2.2
theorem zt8 {q08 : Nat} {q0e : List Nat} {q09 : Nat} {q0g : List Nat} {q0a : Nat} {q0f : List Nat} {q0h : Nat} {q0i : List Nat} {q0n : Int} {q0s : Nat} {q0r : Nat} {r : Nat × Nat × Nat × Nat × (List Nat) × (List Nat) × (List Nat) × (List Nat)} (h : z8m q08 q0e q09 q0g q0a q0f q0h q0i q0n q0s q0r = some r) : zme q08 q0e q09 q0g q0a q0f q0h q0i q0n q0s q0r = true ∧ zc4 q08 q0e q09 q0g q0a q0f q0h q0i q0n q0s q0r = r.1 ∧ zc7 q08 q0e q09 q0g q0a q0f q0h q0i q0n q0s q0r = r.2.1 ∧ zcf q08 q0e q09 q0g q0a q0f q0h q0i q0n q0s q0r = r.2.2.1 ∧ z6b q08 q0e q09 q0g q0a q0f q0h q0i q0n q0s q0r = r.2.2.2.1 ∧ zf4 q08 q0e q09 q0g q0a q0f q0h q0i q0n q0s q0r = r.2.2.2.2.1 ∧ zf6 q08 q0e q09 q0g q0a q0f q0h q0i q0n q0s q0r = r.2.2.2.2.2.1 ∧ zf8 q08 q0e q09 q0g q0a q0f q0h q0i q0n q0s q0r = r.2.2.2.2.2.2.1 ∧ ze1 q08 q0e q09 q0g q0a q0f q0h q0i q0n q0s q0r = r.2.2.2.2.2.2.2 := by
  unfold zme zc4 zc7 zcf z6b zf4 zf6 zf8 ze1
  rw [h]
  exact ⟨rfl, rfl, rfl, rfl, rfl, rfl, rfl, rfl, rfl⟩
noncomputable def zei {R : Type} (x : Nat) (k_ : Bool → Option R) : Option R := (grd (z81 x) (br (z7p x) (k_ (fcmp BinOp.geq FloatKind.f32 x 0)) (k_ Bool.false)))
noncomputable def zef (x : Nat) : Option (Bool) := zei x (fun c0_ => some c0_)
theorem zr3 {R R' : Type} (o : Option R → Option R') (h0 : o none = none) (x : Nat) (k_ : Bool → Option R) : zei x (fun c0_ => o (k_ c0_)) = o (zei x k_) := by
  unfold zei
  repeat (first | refine grd_out h0 ?_ | refine br_out ?_ ?_ | rfl | exact h0.symm)
noncomputable def zar (x : Nat) : Bool := (zef x).isSome
noncomputable def za9 (x : Nat) : Bool := ((zef x).getD default)
theorem znh {x : Nat} {r : Bool} (h : zef x = some r) : zar x = true ∧ za9 x = r := by
  unfold zar za9
  rw [h]
  exact ⟨rfl, rfl⟩
noncomputable def ze3 {R : Type} (q2g : Nat) (q2o : Nat) (q2p : Nat) (q37 : Nat) (q3d : Nat) (q3c : Nat) (k_ : Bool → Option R) : Option R := (grd (z9j (fcvV FloatKind.f32 FloatKind.f64 q2g) (fcvV FloatKind.f32 FloatKind.f64 q37)) (br (bnot (z97 (fcvV FloatKind.f32 FloatKind.f64 q2g) (fcvV FloatKind.f32 FloatKind.f64 q37))) (k_ Bool.false) (grd (z9j (fcvV FloatKind.f32 FloatKind.f64 q2o) (fcvV FloatKind.f32 FloatKind.f64 q3d)) (br (bnot (z97 (fcvV FloatKind.f32 FloatKind.f64 q2o) (fcvV FloatKind.f32 FloatKind.f64 q3d))) (k_ Bool.false) (grd (z9j (fcvV FloatKind.f32 FloatKind.f64 q2p) (fcvV FloatKind.f32 FloatKind.f64 q3c)) (br (bnot (z97 (fcvV FloatKind.f32 FloatKind.f64 q2p) (fcvV FloatKind.f32 FloatKind.f64 q3c))) (k_ Bool.false) (k_ Bool.true)))))))
noncomputable def zdw (q2g : Nat) (q2o : Nat) (q2p : Nat) (q37 : Nat) (q3d : Nat) (q3c : Nat) : Option (Bool) := ze3 q2g q2o q2p q37 q3d q3c (fun c0_ => some c0_)
theorem zqe {R R' : Type} (o : Option R → Option R') (h0 : o none = none) (q2g : Nat) (q2o : Nat) (q2p : Nat) (q37 : Nat) (q3d : Nat) (q3c : Nat) (k_ : Bool → Option R) : ze3 q2g q2o q2p q37 q3d q3c (fun c0_ => o (k_ c0_)) = o (ze3 q2g q2o q2p q37 q3d q3c k_) := by
  unfold ze3
  repeat (first | refine grd_out h0 ?_ | refine br_out ?_ ?_ | rfl | exact h0.symm)
noncomputable def zl4 (q2g : Nat) (q2o : Nat) (q2p : Nat) (q37 : Nat) (q3d : Nat) (q3c : Nat) : Bool := (zdw q2g q2o q2p q37 q3d q3c).isSome
noncomputable def zjj (q2g : Nat) (q2o : Nat) (q2p : Nat) (q37 : Nat) (q3d : Nat) (q3c : Nat) : Bool := ((zdw q2g q2o q2p q37 q3d q3c).getD default)
theorem zrp {q2g : Nat} {q2o : Nat} {q2p : Nat} {q37 : Nat} {q3d : Nat} {q3c : Nat} {r : Bool} (h : zdw q2g q2o q2p q37 q3d q3c = some r) : zl4 q2g q2o q2p q37 q3d q3c = true ∧ zjj q2g q2o q2p q37 q3d q3c = r := by
  unfold zl4 zjj
  rw [h]
  exact ⟨rfl, rfl⟩
noncomputable def zf3 {R : Type} (x : Nat) (k_ : Bool → Option R) : Option R := (grd (za0 x) (br (z9i x) (k_ (fcmp BinOp.geq FloatKind.f32 x 0)) (k_ Bool.false)))
noncomputable def zf2 (x : Nat) : Option (Bool) := zf3 x (fun c0_ => some c0_)
theorem zrl {R R' : Type} (o : Option R → Option R') (h0 : o none = none) (x : Nat) (k_ : Bool → Option R) : zf3 x (fun c0_ => o (k_ c0_)) = o (zf3 x k_) := by
  unfold zf3
  repeat (first | refine grd_out h0 ?_ | refine br_out ?_ ?_ | rfl | exact h0.symm)
noncomputable def zkb (x : Nat) : Bool := (zf2 x).isSome
noncomputable def zh5 (x : Nat) : Bool := ((zf2 x).getD default)
theorem zog {x : Nat} {r : Bool} (h : zf2 x = some r) : zkb x = true ∧ zh5 x = r := by
  unfold zkb zh5
  rw [h]
  exact ⟨rfl, rfl⟩
noncomputable def zee {R : Type} (x : Nat) (k_ : Bool → Option R) : Option R := (grd (z81 x) (br (z7p x) (k_ (fcmp BinOp.gtr FloatKind.f32 x 0)) (k_ Bool.false)))
noncomputable def zeg (x : Nat) : Option (Bool) := zee x (fun c0_ => some c0_)
theorem zr1 {R R' : Type} (o : Option R → Option R') (h0 : o none = none) (x : Nat) (k_ : Bool → Option R) : zee x (fun c0_ => o (k_ c0_)) = o (zee x k_) := by
  unfold zee
  repeat (first | refine grd_out h0 ?_ | refine br_out ?_ ?_ | rfl | exact h0.symm)
noncomputable def zld (x : Nat) : Bool := (zeg x).isSome
noncomputable def zl5 (x : Nat) : Bool := ((zeg x).getD default)
theorem zsa {x : Nat} {r : Bool} (h : zeg x = some r) : zld x = true ∧ zl5 x = r := by
  unfold zld zl5
  rw [h]
  exact ⟨rfl, rfl⟩
noncomputable def zcc {R : Type} (x : Nat) (k_ : Bool → Option R) : Option R := (grd (za0 x) (k_ (bnot (z9i x))))
noncomputable def zc6 (x : Nat) : Option (Bool) := zcc x (fun c0_ => some c0_)
theorem zoo {R R' : Type} (o : Option R → Option R') (h0 : o none = none) (x : Nat) (k_ : Bool → Option R) : zcc x (fun c0_ => o (k_ c0_)) = o (zcc x k_) := by
  unfold zcc
  repeat (first | refine grd_out h0 ?_ | refine br_out ?_ ?_ | rfl | exact h0.symm)
noncomputable def zha (x : Nat) : Bool := (zc6 x).isSome
noncomputable def zfp (x : Nat) : Bool := ((zc6 x).getD default)
theorem zqu {x : Nat} {r : Bool} (h : zc6 x = some r) : zha x = true ∧ zfp x = r := by
  unfold zha zfp
  rw [h]
  exact ⟨rfl, rfl⟩
noncomputable def zae {R : Type} (x : Nat) (k_ : Bool → Option R) : Option R := (grd (za0 x) (br (bnot (z9i x)) (k_ Bool.true) (k_ (fcmp BinOp.leq FloatKind.f32 x 0))))
noncomputable def zad (x : Nat) : Option (Bool) := zae x (fun c0_ => some c0_)
theorem znj {R R' : Type} (o : Option R → Option R') (h0 : o none = none) (x : Nat) (k_ : Bool → Option R) : zae x (fun c0_ => o (k_ c0_)) = o (zae x k_) := by
  unfold zae
  repeat (first | refine grd_out h0 ?_ | refine br_out ?_ ?_ | rfl | exact h0.symm)
noncomputable def zev (x : Nat) : Bool := (zad x).isSome
noncomputable def zeh (x : Nat) : Bool := ((zad x).getD default)
theorem zpq {x : Nat} {r : Bool} (h : zad x = some r) : zev x = true ∧ zeh x = r := by
  unfold zev zeh
  rw [h]
  exact ⟨rfl, rfl⟩
noncomputable def z7t {R : Type} (an : Nat) (q2l : Nat) (b0 : List Nat) (i : Int) (b1 : List Nat) (kn_ : Int → (List Nat) → Option R) (k0_ : Int → Bool → (List Nat) → Option R) : Option R := (br (ltI i (Int.ofNat an)) (grd (okIx i an) (grd (okIx i q2l) (kn_ (addI IntKind.i64 i 1) (sF b1 (ixO 0 i 1) (gF b0 (ixO 0 i 1)))))) (k0_ i (ltI i (Int.ofNat an)) b1))
theorem znz {R R' : Type} (o : Option R → Option R') (h0 : o none = none) (an : Nat) (q2l : Nat) (b0 : List Nat) (i : Int) (b1 : List Nat) (kn_ : Int → (List Nat) → Option R) (k0_ : Int → Bool → (List Nat) → Option R) : z7t an q2l b0 i b1 (fun i' b1' => o (kn_ i' b1')) (fun c0_ c1_ c2_ => o (k0_ c0_ c1_ c2_)) = o (z7t an q2l b0 i b1 kn_ k0_) := by
  unfold z7t
  repeat (first | refine grd_out h0 ?_ | refine br_out ?_ ?_ | rfl | exact h0.symm)
noncomputable def z65 (an : Nat) (q2l : Nat) (b0 : List Nat) : Nat → Int → (List Nat) → Option ((Int × Bool × (List Nat)))
  | 0, _, _ => none
  | n + 1, i, b1 => z7t an q2l b0  i b1  (fun i' b1' => z65 an q2l b0 n i' b1') (fun c0_ c1_ c2_ => some (c0_, c1_, c2_))
theorem zlg (an : Nat) (q2l : Nat) (b0 : List Nat) (n : Nat) (i : Int) (b1 : List Nat) : z65 an q2l b0 (n + 1) i b1 = z7t an q2l b0  i b1  (fun i' b1' => z65 an q2l b0 n i' b1') (fun c0_ c1_ c2_ => some (c0_, c1_, c2_)) := rfl
noncomputable def zcv (an : Nat) (q2l : Nat) (b0 : List Nat) (i : Int) (b1 : List Nat) : Bool := (z65 an q2l b0 big i b1).isSome
noncomputable def zgm (an : Nat) (q2l : Nat) (b0 : List Nat) (i : Int) (b1 : List Nat) : Int := ((z65 an q2l b0 big i b1).getD default).1
noncomputable def zgh (an : Nat) (q2l : Nat) (b0 : List Nat) (i : Int) (b1 : List Nat) : Bool := ((z65 an q2l b0 big i b1).getD default).2.1
noncomputable def zal (an : Nat) (q2l : Nat) (b0 : List Nat) (i : Int) (b1 : List Nat) : List Nat := ((z65 an q2l b0 big i b1).getD default).2.2
theorem zp3 {an : Nat} {q2l : Nat} {b0 : List Nat} {i : Int} {b1 : List Nat} {m : Nat} {r : Int × Bool × (List Nat)} (hm : m = big) (h : z65 an q2l b0 m i b1 = some r) : zcv an q2l b0 i b1 = true ∧ zgm an q2l b0 i b1 = r.1 ∧ zgh an q2l b0 i b1 = r.2.1 ∧ zal an q2l b0 i b1 = r.2.2 := by
  subst hm
  unfold zcv zgm zgh zal
  rw [h]
  exact ⟨rfl, rfl, rfl, rfl⟩
noncomputable def z6w {R : Type} (an : Nat) (b0 : List Nat) (k : Int) (i : Int) (kn_ : Int → Int → Option R) (k0_ : Unit → Option R) (k1_ : Int → Int → Bool → Option R) : Option R := (br (ltI i (Int.ofNat an)) (grd (okIx i an) (br (fcmp BinOp.neq FloatKind.f32 (gF b0 (ixO 0 i 3)) (fOI FloatKind.f32 k)) (k0_ ()) (grd (okIx i an) (br (fcmp BinOp.neq FloatKind.f32 (gF b0 (Nat.succ (ixO 0 i 3))) (fOI FloatKind.f32 (addI IntKind.i64 k 1))) (k0_ ()) (grd (okIx i an) (br (fcmp BinOp.neq FloatKind.f32 (gF b0 (Nat.succ (Nat.succ (ixO 0 i 3)))) (fOI FloatKind.f32 (addI IntKind.i64 (addI IntKind.i64 k 1) 1))) (k0_ ()) (kn_ (addI IntKind.i64 (addI IntKind.i64 (addI IntKind.i64 k 1) 1) 1) (addI IntKind.i64 i 1)))))))) (k1_ k i (ltI i (Int.ofNat an))))
theorem zn0 {R R' : Type} (o : Option R → Option R') (h0 : o none = none) (an : Nat) (b0 : List Nat) (k : Int) (i : Int) (kn_ : Int → Int → Option R) (k0_ : Unit → Option R) (k1_ : Int → Int → Bool → Option R) : z6w an b0 k i (fun k' i' => o (kn_ k' i')) (fun _ => o (k0_ ())) (fun c0_ c1_ c2_ => o (k1_ c0_ c1_ c2_)) = o (z6w an b0 k i kn_ k0_ k1_) := by
  unfold z6w
  repeat (first | refine grd_out h0 ?_ | refine br_out ?_ ?_ | rfl | exact h0.symm)
noncomputable def z4r (an : Nat) (b0 : List Nat) : Nat → Int → Int → Option ((Unit) ⊕ (Int × Int × Bool))
  | 0, _, _ => none
  | n + 1, k, i => z6w an b0  k i  (fun k' i' => z4r an b0 n k' i') (fun _ => some (Sum.inl ())) (fun c0_ c1_ c2_ => some (Sum.inr (c0_, c1_, c2_)))
theorem zks (an : Nat) (b0 : List Nat) (n : Nat) (k : Int) (i : Int) : z4r an b0 (n + 1) k i = z6w an b0  k i  (fun k' i' => z4r an b0 n k' i') (fun _ => some (Sum.inl ())) (fun c0_ c1_ c2_ => some (Sum.inr (c0_, c1_, c2_))) := rfl
noncomputable def ze5 (an : Nat) (b0 : List Nat) (k : Int) (i : Int) : Bool := (z4r an b0 big k i).isSome
noncomputable def zdk (an : Nat) (b0 : List Nat) (k : Int) (i : Int) : Bool := oL (z4r an b0 big k i)
noncomputable def zck (an : Nat) (b0 : List Nat) (k : Int) (i : Int) : Int := ((tR (z4r an b0 big k i)).getD default).1
noncomputable def zf0 (an : Nat) (b0 : List Nat) (k : Int) (i : Int) : Int := ((tR (z4r an b0 big k i)).getD default).2.1
noncomputable def zet (an : Nat) (b0 : List Nat) (k : Int) (i : Int) : Bool := ((tR (z4r an b0 big k i)).getD default).2.2
theorem zo4 {an : Nat} {b0 : List Nat} {k : Int} {i : Int} {m : Nat} {r : Int × Int × Bool} (hm : m = big) (h : z4r an b0 m k i = some (Sum.inr r)) : ze5 an b0 k i = true ∧ zdk an b0 k i = false ∧ zck an b0 k i = r.1 ∧ zf0 an b0 k i = r.2.1 ∧ zet an b0 k i = r.2.2 := by
  subst hm
  unfold ze5 zdk zck zf0 zet
  rw [h]
  exact ⟨rfl, rfl, rfl, rfl, rfl⟩
noncomputable def z6u {R : Type} (an : Nat) (b0 : List Nat) (k : Int) (i : Int) (kn_ : Int → Int → Option R) (k0_ : Unit → Option R) (k1_ : Int → Int → Bool → Option R) : Option R := (br (ltI i (Int.ofNat an)) (grd (okIx i an) (br (fcmp BinOp.neq FloatKind.f32 (gF b0 (ixO 0 i 1)) (fOI FloatKind.f32 k)) (k0_ ()) (kn_ (addI IntKind.i64 k 1) (addI IntKind.i64 i 1)))) (k1_ k i (ltI i (Int.ofNat an))))
theorem zn1 {R R' : Type} (o : Option R → Option R') (h0 : o none = none) (an : Nat) (b0 : List Nat) (k : Int) (i : Int) (kn_ : Int → Int → Option R) (k0_ : Unit → Option R) (k1_ : Int → Int → Bool → Option R) : z6u an b0 k i (fun k' i' => o (kn_ k' i')) (fun _ => o (k0_ ())) (fun c0_ c1_ c2_ => o (k1_ c0_ c1_ c2_)) = o (z6u an b0 k i kn_ k0_ k1_) := by
  unfold z6u
  repeat (first | refine grd_out h0 ?_ | refine br_out ?_ ?_ | rfl | exact h0.symm)
noncomputable def z4t (an : Nat) (b0 : List Nat) : Nat → Int → Int → Option ((Unit) ⊕ (Int × Int × Bool))
  | 0, _, _ => none
  | n + 1, k, i => z6u an b0  k i  (fun k' i' => z4t an b0 n k' i') (fun _ => some (Sum.inl ())) (fun c0_ c1_ c2_ => some (Sum.inr (c0_, c1_, c2_)))
theorem zkv (an : Nat) (b0 : List Nat) (n : Nat) (k : Int) (i : Int) : z4t an b0 (n + 1) k i = z6u an b0  k i  (fun k' i' => z4t an b0 n k' i') (fun _ => some (Sum.inl ())) (fun c0_ c1_ c2_ => some (Sum.inr (c0_, c1_, c2_))) := rfl
noncomputable def ze4 (an : Nat) (b0 : List Nat) (k : Int) (i : Int) : Bool := (z4t an b0 big k i).isSome
noncomputable def zdl (an : Nat) (b0 : List Nat) (k : Int) (i : Int) : Bool := oL (z4t an b0 big k i)
noncomputable def zcj (an : Nat) (b0 : List Nat) (k : Int) (i : Int) : Int := ((tR (z4t an b0 big k i)).getD default).1
noncomputable def zep (an : Nat) (b0 : List Nat) (k : Int) (i : Int) : Int := ((tR (z4t an b0 big k i)).getD default).2.1
noncomputable def zf1 (an : Nat) (b0 : List Nat) (k : Int) (i : Int) : Bool := ((tR (z4t an b0 big k i)).getD default).2.2
theorem zni {an : Nat} {b0 : List Nat} {k : Int} {i : Int} {m : Nat} {r : Int × Int × Bool} (hm : m = big) (h : z4t an b0 m k i = some (Sum.inr r)) : ze4 an b0 k i = true ∧ zdl an b0 k i = false ∧ zcj an b0 k i = r.1 ∧ zep an b0 k i = r.2.1 ∧ zf1 an b0 k i = r.2.2 := by
  subst hm
  unfold ze4 zdl zcj zep zf1
  rw [h]
  exact ⟨rfl, rfl, rfl, rfl, rfl⟩
noncomputable def zf9 {R : Type} (q0j : Nat) (q0m : List Nat) (q0k : Nat) (q0o : List Nat) (q0l : Nat) (q0p : List Nat) (q0q : Nat) (q0u : List Nat) (q14 : Int) (q23 : Nat) (q24 : Nat) (q2c : Int) (k_ : Int → Option R) : Option R := (grd (zl1 q0j (pF q0m 0 (muN q0j 1)) q0k (pF q0o 0 (muN q0k 1)) q0l (pF q0p 0 (muN q0l 1)) q2c) (br (ltI (zap q0j (pF q0m 0 (muN q0j 1)) q0k (pF q0o 0 (muN q0k 1)) q0l (pF q0p 0 (muN q0l 1)) q2c) 0) (k_ (Int.negSucc 0)) (grd (zju q0q (pF q0u 0 (muN q0q 3)) (zap q0j (pF q0m 0 (muN q0j 1)) q0k (pF q0o 0 (muN q0k 1)) q0l (pF q0p 0 (muN q0l 1)) q2c)) (br (ltI (ze8 q0q (pF q0u 0 (muN q0q 3)) (zap q0j (pF q0m 0 (muN q0j 1)) q0k (pF q0o 0 (muN q0k 1)) q0l (pF q0p 0 (muN q0l 1)) q2c)) 0) (k_ (Int.negSucc 0)) (k_ (ze8 q0q (pF q0u 0 (muN q0q 3)) (zap q0j (pF q0m 0 (muN q0j 1)) q0k (pF q0o 0 (muN q0k 1)) q0l (pF q0p 0 (muN q0l 1)) q2c)))))))
noncomputable def zfa (q0j : Nat) (q0m : List Nat) (q0k : Nat) (q0o : List Nat) (q0l : Nat) (q0p : List Nat) (q0q : Nat) (q0u : List Nat) (q14 : Int) (q23 : Nat) (q24 : Nat) (q2c : Int) : Option (Int) := zf9 q0j q0m q0k q0o q0l q0p q0q q0u q14 q23 q24 q2c (fun c0_ => some c0_)
theorem zri {R R' : Type} (o : Option R → Option R') (h0 : o none = none) (q0j : Nat) (q0m : List Nat) (q0k : Nat) (q0o : List Nat) (q0l : Nat) (q0p : List Nat) (q0q : Nat) (q0u : List Nat) (q14 : Int) (q23 : Nat) (q24 : Nat) (q2c : Int) (k_ : Int → Option R) : zf9 q0j q0m q0k q0o q0l q0p q0q q0u q14 q23 q24 q2c (fun c0_ => o (k_ c0_)) = o (zf9 q0j q0m q0k q0o q0l q0p q0q q0u q14 q23 q24 q2c k_) := by
  unfold zf9
  repeat (first | refine grd_out h0 ?_ | refine br_out ?_ ?_ | rfl | exact h0.symm)
noncomputable def zjx (q0j : Nat) (q0m : List Nat) (q0k : Nat) (q0o : List Nat) (q0l : Nat) (q0p : List Nat) (q0q : Nat) (q0u : List Nat) (q14 : Int) (q23 : Nat) (q24 : Nat) (q2c : Int) : Bool := (zfa q0j q0m q0k q0o q0l q0p q0q q0u q14 q23 q24 q2c).isSome
noncomputable def zhl (q0j : Nat) (q0m : List Nat) (q0k : Nat) (q0o : List Nat) (q0l : Nat) (q0p : List Nat) (q0q : Nat) (q0u : List Nat) (q14 : Int) (q23 : Nat) (q24 : Nat) (q2c : Int) : Int := ((zfa q0j q0m q0k q0o q0l q0p q0q q0u q14 q23 q24 q2c).getD default)
theorem zt2 {q0j : Nat} {q0m : List Nat} {q0k : Nat} {q0o : List Nat} {q0l : Nat} {q0p : List Nat} {q0q : Nat} {q0u : List Nat} {q14 : Int} {q23 : Nat} {q24 : Nat} {q2c : Int} {r : Int} (h : zfa q0j q0m q0k q0o q0l q0p q0q q0u q14 q23 q24 q2c = some r) : zjx q0j q0m q0k q0o q0l q0p q0q q0u q14 q23 q24 q2c = true ∧ zhl q0j q0m q0k q0o q0l q0p q0q q0u q14 q23 q24 q2c = r := by
  unfold zjx zhl
  rw [h]
  exact ⟨rfl, rfl⟩
noncomputable def zd6 {R : Type} (a_n : Nat) (a : List Nat) (k_ : Nat → (List Nat) → Option R) : Option R := (grd (okMk (Int.ofNat a_n) (Int.ofNat a_n) 4) (grd (zcv a_n (toN (Int.ofNat a_n)) a 0 (rF (muN (toN (Int.ofNat a_n)) 1))) (k_ (toN (Int.ofNat a_n)) (zal a_n (toN (Int.ofNat a_n)) a 0 (rF (muN (toN (Int.ofNat a_n)) 1))))))
noncomputable def zao (a_n : Nat) (a : List Nat) : Option (Nat × (List Nat)) := zd6 a_n a (fun c0_ c1_ => some (c0_, c1_))
theorem zpf {R R' : Type} (o : Option R → Option R') (h0 : o none = none) (a_n : Nat) (a : List Nat) (k_ : Nat → (List Nat) → Option R) : zd6 a_n a (fun c0_ c1_ => o (k_ c0_ c1_)) = o (zd6 a_n a k_) := by
  unfold zd6
  repeat (first | refine grd_out h0 ?_ | refine br_out ?_ ?_ | rfl | exact h0.symm)
noncomputable def zcz (a_n : Nat) (a : List Nat) : Bool := (zao a_n a).isSome
noncomputable def zch (a_n : Nat) (a : List Nat) : Nat := ((zao a_n a).getD default).1
noncomputable def zce (a_n : Nat) (a : List Nat) : List Nat := ((zao a_n a).getD default).2
theorem zlm {a_n : Nat} {a : List Nat} {r : Nat × (List Nat)} (h : zao a_n a = some r) : zcz a_n a = true ∧ zch a_n a = r.1 ∧ zce a_n a = r.2 := by
  unfold zcz zch zce
  rw [h]
  exact ⟨rfl, rfl, rfl⟩
noncomputable def zb3 {R : Type} (a_n : Nat) (a : List Nat) (k : Int) (k_ : Int → Option R) : Option R := (grd (ze5 a_n a k 0) (br (zdk a_n a k 0) (k_ (Int.negSucc 0)) (k_ (zck a_n a k 0))))
noncomputable def zay (a_n : Nat) (a : List Nat) (k : Int) : Option (Int) := zb3 a_n a k (fun c0_ => some c0_)
theorem zo6 {R R' : Type} (o : Option R → Option R') (h0 : o none = none) (a_n : Nat) (a : List Nat) (k : Int) (k_ : Int → Option R) : zb3 a_n a k (fun c0_ => o (k_ c0_)) = o (zb3 a_n a k k_) := by
  unfold zb3
  repeat (first | refine grd_out h0 ?_ | refine br_out ?_ ?_ | rfl | exact h0.symm)
noncomputable def zfq (a_n : Nat) (a : List Nat) (k : Int) : Bool := (zay a_n a k).isSome
noncomputable def zcs (a_n : Nat) (a : List Nat) (k : Int) : Int := ((zay a_n a k).getD default)
theorem zqa {a_n : Nat} {a : List Nat} {k : Int} {r : Int} (h : zay a_n a k = some r) : zfq a_n a k = true ∧ zcs a_n a k = r := by
  unfold zfq zcs
  rw [h]
  exact ⟨rfl, rfl⟩
noncomputable def zb4 {R : Type} (a_n : Nat) (a : List Nat) (k : Int) (k_ : Int → Option R) : Option R := (grd (ze4 a_n a k 0) (br (zdl a_n a k 0) (k_ (Int.negSucc 0)) (k_ (zcj a_n a k 0))))
noncomputable def zb1 (a_n : Nat) (a : List Nat) (k : Int) : Option (Int) := zb4 a_n a k (fun c0_ => some c0_)
theorem zo9 {R R' : Type} (o : Option R → Option R') (h0 : o none = none) (a_n : Nat) (a : List Nat) (k : Int) (k_ : Int → Option R) : zb4 a_n a k (fun c0_ => o (k_ c0_)) = o (zb4 a_n a k k_) := by
  unfold zb4
  repeat (first | refine grd_out h0 ?_ | refine br_out ?_ ?_ | rfl | exact h0.symm)
noncomputable def zaz (a_n : Nat) (a : List Nat) (k : Int) : Bool := (zb1 a_n a k).isSome
noncomputable def z58 (a_n : Nat) (a : List Nat) (k : Int) : Int := ((zb1 a_n a k).getD default)
theorem zky {a_n : Nat} {a : List Nat} {k : Int} {r : Int} (h : zb1 a_n a k = some r) : zaz a_n a k = true ∧ z58 a_n a k = r := by
  unfold zaz z58
  rw [h]
  exact ⟨rfl, rfl⟩
noncomputable def zdy {R : Type} (q08 : Nat) (q0e : List Nat) (q09 : Nat) (q0g : List Nat) (q0a : Nat) (q0f : List Nat) (q0h : Nat) (q0i : List Nat) (q0n : Int) (q0s : Nat) (q0r : Nat) (k_ : Nat → Nat → Nat → Nat → (List Nat) → (List Nat) → (List Nat) → (List Nat) → Option R) : Option R := (grd (zhd q08 (pF q0e 0 (muN q08 1)) q09 (pF q0g 0 (muN q09 1)) q0a (pF q0f 0 (muN q0a 1))) (grd (z7l q0h (pF q0i 0 (muN q0h 3))) (k_ (zfu q08 (pF q0e 0 (muN q08 1)) q09 (pF q0g 0 (muN q09 1)) q0a (pF q0f 0 (muN q0a 1))) (zfv q08 (pF q0e 0 (muN q08 1)) q09 (pF q0g 0 (muN q09 1)) q0a (pF q0f 0 (muN q0a 1))) (zfx q08 (pF q0e 0 (muN q08 1)) q09 (pF q0g 0 (muN q09 1)) q0a (pF q0f 0 (muN q0a 1))) (z7c q0h (pF q0i 0 (muN q0h 3))) (zfw q08 (pF q0e 0 (muN q08 1)) q09 (pF q0g 0 (muN q09 1)) q0a (pF q0f 0 (muN q0a 1))) (zfo q08 (pF q0e 0 (muN q08 1)) q09 (pF q0g 0 (muN q09 1)) q0a (pF q0f 0 (muN q0a 1))) (zfz q08 (pF q0e 0 (muN q08 1)) q09 (pF q0g 0 (muN q09 1)) q0a (pF q0f 0 (muN q0a 1))) (z7g q0h (pF q0i 0 (muN q0h 3))))))
noncomputable def z6q (q08 : Nat) (q0e : List Nat) (q09 : Nat) (q0g : List Nat) (q0a : Nat) (q0f : List Nat) (q0h : Nat) (q0i : List Nat) (q0n : Int) (q0s : Nat) (q0r : Nat) : Option (Nat × Nat × Nat × Nat × (List Nat) × (List Nat) × (List Nat) × (List Nat)) := zdy q08 q0e q09 q0g q0a q0f q0h q0i q0n q0s q0r (fun c0_ c1_ c2_ c3_ c4_ c5_ c6_ c7_ => some (c0_, c1_, c2_, c3_, c4_, c5_, c6_, c7_))
theorem zpr {R R' : Type} (o : Option R → Option R') (h0 : o none = none) (q08 : Nat) (q0e : List Nat) (q09 : Nat) (q0g : List Nat) (q0a : Nat) (q0f : List Nat) (q0h : Nat) (q0i : List Nat) (q0n : Int) (q0s : Nat) (q0r : Nat) (k_ : Nat → Nat → Nat → Nat → (List Nat) → (List Nat) → (List Nat) → (List Nat) → Option R) : zdy q08 q0e q09 q0g q0a q0f q0h q0i q0n q0s q0r (fun c0_ c1_ c2_ c3_ c4_ c5_ c6_ c7_ => o (k_ c0_ c1_ c2_ c3_ c4_ c5_ c6_ c7_)) = o (zdy q08 q0e q09 q0g q0a q0f q0h q0i q0n q0s q0r k_) := by
  unfold zdy
  repeat (first | refine grd_out h0 ?_ | refine br_out ?_ ?_ | rfl | exact h0.symm)
noncomputable def zl2 (q08 : Nat) (q0e : List Nat) (q09 : Nat) (q0g : List Nat) (q0a : Nat) (q0f : List Nat) (q0h : Nat) (q0i : List Nat) (q0n : Int) (q0s : Nat) (q0r : Nat) : Bool := (z6q q08 q0e q09 q0g q0a q0f q0h q0i q0n q0s q0r).isSome
noncomputable def z9x (q08 : Nat) (q0e : List Nat) (q09 : Nat) (q0g : List Nat) (q0a : Nat) (q0f : List Nat) (q0h : Nat) (q0i : List Nat) (q0n : Int) (q0s : Nat) (q0r : Nat) : Nat := ((z6q q08 q0e q09 q0g q0a q0f q0h q0i q0n q0s q0r).getD default).1
noncomputable def z9w (q08 : Nat) (q0e : List Nat) (q09 : Nat) (q0g : List Nat) (q0a : Nat) (q0f : List Nat) (q0h : Nat) (q0i : List Nat) (q0n : Int) (q0s : Nat) (q0r : Nat) : Nat := ((z6q q08 q0e q09 q0g q0a q0f q0h q0i q0n q0s q0r).getD default).2.1
noncomputable def z9v (q08 : Nat) (q0e : List Nat) (q09 : Nat) (q0g : List Nat) (q0a : Nat) (q0f : List Nat) (q0h : Nat) (q0i : List Nat) (q0n : Int) (q0s : Nat) (q0r : Nat) : Nat := ((z6q q08 q0e q09 q0g q0a q0f q0h q0i q0n q0s q0r).getD default).2.2.1
noncomputable def z5m (q08 : Nat) (q0e : List Nat) (q09 : Nat) (q0g : List Nat) (q0a : Nat) (q0f : List Nat) (q0h : Nat) (q0i : List Nat) (q0n : Int) (q0s : Nat) (q0r : Nat) : Nat := ((z6q q08 q0e q09 q0g q0a q0f q0h q0i q0n q0s q0r).getD default).2.2.2.1
noncomputable def zd5 (q08 : Nat) (q0e : List Nat) (q09 : Nat) (q0g : List Nat) (q0a : Nat) (q0f : List Nat) (q0h : Nat) (q0i : List Nat) (q0n : Int) (q0s : Nat) (q0r : Nat) : List Nat := ((z6q q08 q0e q09 q0g q0a q0f q0h q0i q0n q0s q0r).getD default).2.2.2.2.1
noncomputable def zda (q08 : Nat) (q0e : List Nat) (q09 : Nat) (q0g : List Nat) (q0a : Nat) (q0f : List Nat) (q0h : Nat) (q0i : List Nat) (q0n : Int) (q0s : Nat) (q0r : Nat) : List Nat := ((z6q q08 q0e q09 q0g q0a q0f q0h q0i q0n q0s q0r).getD default).2.2.2.2.2.1
noncomputable def zd2 (q08 : Nat) (q0e : List Nat) (q09 : Nat) (q0g : List Nat) (q0a : Nat) (q0f : List Nat) (q0h : Nat) (q0i : List Nat) (q0n : Int) (q0s : Nat) (q0r : Nat) : List Nat := ((z6q q08 q0e q09 q0g q0a q0f q0h q0i q0n q0s q0r).getD default).2.2.2.2.2.2.1
noncomputable def zan (q08 : Nat) (q0e : List Nat) (q09 : Nat) (q0g : List Nat) (q0a : Nat) (q0f : List Nat) (q0h : Nat) (q0i : List Nat) (q0n : Int) (q0s : Nat) (q0r : Nat) : List Nat := ((z6q q08 q0e q09 q0g q0a q0f q0h q0i q0n q0s q0r).getD default).2.2.2.2.2.2.2
theorem zrr {q08 : Nat} {q0e : List Nat} {q09 : Nat} {q0g : List Nat} {q0a : Nat} {q0f : List Nat} {q0h : Nat} {q0i : List Nat} {q0n : Int} {q0s : Nat} {q0r : Nat} {r : Nat × Nat × Nat × Nat × (List Nat) × (List Nat) × (List Nat) × (List Nat)} (h : z6q q08 q0e q09 q0g q0a q0f q0h q0i q0n q0s q0r = some r) : zl2 q08 q0e q09 q0g q0a q0f q0h q0i q0n q0s q0r = true ∧ z9x q08 q0e q09 q0g q0a q0f q0h q0i q0n q0s q0r = r.1 ∧ z9w q08 q0e q09 q0g q0a q0f q0h q0i q0n q0s q0r = r.2.1 ∧ z9v q08 q0e q09 q0g q0a q0f q0h q0i q0n q0s q0r = r.2.2.1 ∧ z5m q08 q0e q09 q0g q0a q0f q0h q0i q0n q0s q0r = r.2.2.2.1 ∧ zd5 q08 q0e q09 q0g q0a q0f q0h q0i q0n q0s q0r = r.2.2.2.2.1 ∧ zda q08 q0e q09 q0g q0a q0f q0h q0i q0n q0s q0r = r.2.2.2.2.2.1 ∧ zd2 q08 q0e q09 q0g q0a q0f q0h q0i q0n q0s q0r = r.2.2.2.2.2.2.1 ∧ zan q08 q0e q09 q0g q0a q0f q0h q0i q0n q0s q0r = r.2.2.2.2.2.2.2 := by
  unfold zl2 z9x z9w z9v z5m zd5 zda zd2 zan
  rw [h]
  exact ⟨rfl, rfl, rfl, rfl, rfl, rfl, rfl, rfl, rfl⟩
noncomputable def zdd {R : Type} (x : Nat) (k_ : Bool → Option R) : Option R := (grd (zkb x) (k_ (bnot (zh5 x))))
noncomputable def zd1 (x : Nat) : Option (Bool) := zdd x (fun c0_ => some c0_)
theorem zpc {R R' : Type} (o : Option R → Option R') (h0 : o none = none) (x : Nat) (k_ : Bool → Option R) : zdd x (fun c0_ => o (k_ c0_)) = o (zdd x k_) := by
  unfold zdd
  repeat (first | refine grd_out h0 ?_ | refine br_out ?_ ?_ | rfl | exact h0.symm)
noncomputable def zjo (x : Nat) : Bool := (zd1 x).isSome
noncomputable def zgw (x : Nat) : Bool := ((zd1 x).getD default)
theorem zrj {x : Nat} {r : Bool} (h : zd1 x = some r) : zjo x = true ∧ zgw x = r := by
  unfold zjo zgw
  rw [h]
  exact ⟨rfl, rfl⟩
noncomputable def z7s {R : Type} (an : Nat) (bn : Nat) (b0 : List Nat) (b1 : List Nat) (i : Int) (kn_ : Int → Option R) (k0_ : Unit → Option R) (k1_ : Int → Bool → Option R) : Option R := (br (ltI i (Int.ofNat an)) (grd (okIx i an) (grd (okIx i bn) (grd (z9j (fcvV FloatKind.f32 FloatKind.f64 (gF b0 (ixO 0 i 1))) (fcvV FloatKind.f32 FloatKind.f64 (gF b1 (ixO 0 i 1)))) (br (bnot (z97 (fcvV FloatKind.f32 FloatKind.f64 (gF b0 (ixO 0 i 1))) (fcvV FloatKind.f32 FloatKind.f64 (gF b1 (ixO 0 i 1))))) (k0_ ()) (kn_ (addI IntKind.i64 i 1)))))) (k1_ i (ltI i (Int.ofNat an))))
theorem znq {R R' : Type} (o : Option R → Option R') (h0 : o none = none) (an : Nat) (bn : Nat) (b0 : List Nat) (b1 : List Nat) (i : Int) (kn_ : Int → Option R) (k0_ : Unit → Option R) (k1_ : Int → Bool → Option R) : z7s an bn b0 b1 i (fun i' => o (kn_ i')) (fun _ => o (k0_ ())) (fun c0_ c1_ => o (k1_ c0_ c1_)) = o (z7s an bn b0 b1 i kn_ k0_ k1_) := by
  unfold z7s
  repeat (first | refine grd_out h0 ?_ | refine br_out ?_ ?_ | rfl | exact h0.symm)
noncomputable def z64 (an : Nat) (bn : Nat) (b0 : List Nat) (b1 : List Nat) : Nat → Int → Option ((Unit) ⊕ (Int × Bool))
  | 0, _ => none
  | n + 1, i => z7s an bn b0 b1  i  (fun i' => z64 an bn b0 b1 n i') (fun _ => some (Sum.inl ())) (fun c0_ c1_ => some (Sum.inr (c0_, c1_)))
theorem zlc (an : Nat) (bn : Nat) (b0 : List Nat) (b1 : List Nat) (n : Nat) (i : Int) : z64 an bn b0 b1 (n + 1) i = z7s an bn b0 b1  i  (fun i' => z64 an bn b0 b1 n i') (fun _ => some (Sum.inl ())) (fun c0_ c1_ => some (Sum.inr (c0_, c1_))) := rfl
noncomputable def zeu (an : Nat) (bn : Nat) (b0 : List Nat) (b1 : List Nat) (i : Int) : Bool := (z64 an bn b0 b1 big i).isSome
noncomputable def ze9 (an : Nat) (bn : Nat) (b0 : List Nat) (b1 : List Nat) (i : Int) : Bool := oL (z64 an bn b0 b1 big i)
noncomputable def zgd (an : Nat) (bn : Nat) (b0 : List Nat) (b1 : List Nat) (i : Int) : Int := ((tR (z64 an bn b0 b1 big i)).getD default).1
noncomputable def zgb (an : Nat) (bn : Nat) (b0 : List Nat) (b1 : List Nat) (i : Int) : Bool := ((tR (z64 an bn b0 b1 big i)).getD default).2
theorem zop {an : Nat} {bn : Nat} {b0 : List Nat} {b1 : List Nat} {i : Int} {m : Nat} {r : Int × Bool} (hm : m = big) (h : z64 an bn b0 b1 m i = some (Sum.inr r)) : zeu an bn b0 b1 i = true ∧ ze9 an bn b0 b1 i = false ∧ zgd an bn b0 b1 i = r.1 ∧ zgb an bn b0 b1 i = r.2 := by
  subst hm
  unfold zeu ze9 zgd zgb
  rw [h]
  exact ⟨rfl, rfl, rfl, rfl⟩
noncomputable def z7q {R : Type} (an : Nat) (q2l : Nat) (b0 : List Nat) (i : Int) (b1 : List Nat) (kn_ : Int → (List Nat) → Option R) (k0_ : Int → Bool → (List Nat) → Option R) : Option R := (br (ltI i (Int.ofNat an)) (grd (okIx i an) (grd (zmi (gF b0 (ixO 0 i 3)) (gF b0 (Nat.succ (ixO 0 i 3))) (gF b0 (Nat.succ (Nat.succ (ixO 0 i 3))))) (grd (okIx i q2l) (kn_ (addI IntKind.i64 i 1) (sF (sF (sF b1 (ixO 0 i 3) (gF b0 (ixO 0 i 3))) (Nat.succ (ixO 0 i 3)) (gF b0 (Nat.succ (ixO 0 i 3)))) (Nat.succ (Nat.succ (ixO 0 i 3))) (gF b0 (Nat.succ (Nat.succ (ixO 0 i 3))))))))) (k0_ i (ltI i (Int.ofNat an)) b1))
theorem znr {R R' : Type} (o : Option R → Option R') (h0 : o none = none) (an : Nat) (q2l : Nat) (b0 : List Nat) (i : Int) (b1 : List Nat) (kn_ : Int → (List Nat) → Option R) (k0_ : Int → Bool → (List Nat) → Option R) : z7q an q2l b0 i b1 (fun i' b1' => o (kn_ i' b1')) (fun c0_ c1_ c2_ => o (k0_ c0_ c1_ c2_)) = o (z7q an q2l b0 i b1 kn_ k0_) := by
  unfold z7q
  repeat (first | refine grd_out h0 ?_ | refine br_out ?_ ?_ | rfl | exact h0.symm)
noncomputable def z59 (an : Nat) (q2l : Nat) (b0 : List Nat) : Nat → Int → (List Nat) → Option ((Int × Bool × (List Nat)))
  | 0, _, _ => none
  | n + 1, i, b1 => z7q an q2l b0  i b1  (fun i' b1' => z59 an q2l b0 n i' b1') (fun c0_ c1_ c2_ => some (c0_, c1_, c2_))
theorem zlj (an : Nat) (q2l : Nat) (b0 : List Nat) (n : Nat) (i : Int) (b1 : List Nat) : z59 an q2l b0 (n + 1) i b1 = z7q an q2l b0  i b1  (fun i' b1' => z59 an q2l b0 n i' b1') (fun c0_ c1_ c2_ => some (c0_, c1_, c2_)) := rfl
noncomputable def zcw (an : Nat) (q2l : Nat) (b0 : List Nat) (i : Int) (b1 : List Nat) : Bool := (z59 an q2l b0 big i b1).isSome
noncomputable def zgl (an : Nat) (q2l : Nat) (b0 : List Nat) (i : Int) (b1 : List Nat) : Int := ((z59 an q2l b0 big i b1).getD default).1
noncomputable def zgg (an : Nat) (q2l : Nat) (b0 : List Nat) (i : Int) (b1 : List Nat) : Bool := ((z59 an q2l b0 big i b1).getD default).2.1
noncomputable def zag (an : Nat) (q2l : Nat) (b0 : List Nat) (i : Int) (b1 : List Nat) : List Nat := ((z59 an q2l b0 big i b1).getD default).2.2
theorem zp1 {an : Nat} {q2l : Nat} {b0 : List Nat} {i : Int} {b1 : List Nat} {m : Nat} {r : Int × Bool × (List Nat)} (hm : m = big) (h : z59 an q2l b0 m i b1 = some r) : zcw an q2l b0 i b1 = true ∧ zgl an q2l b0 i b1 = r.1 ∧ zgg an q2l b0 i b1 = r.2.1 ∧ zag an q2l b0 i b1 = r.2.2 := by
  subst hm
  unfold zcw zgl zgg zag
  rw [h]
  exact ⟨rfl, rfl, rfl, rfl⟩
noncomputable def zdv {R : Type} (q0t : Nat) (q0z : List Nat) (q0v : Nat) (q13 : List Nat) (q0w : Nat) (q15 : List Nat) (k_ : Nat → Nat → Nat → (List Nat) → (List Nat) → (List Nat) → Option R) : Option R := (grd (zcz q0t (pF q0z 0 (muN q0t 1))) (grd (zcz q0v (pF q13 0 (muN q0v 1))) (grd (zcz q0w (pF q15 0 (muN q0w 1))) (k_ (zch q0t (pF q0z 0 (muN q0t 1))) (zch q0v (pF q13 0 (muN q0v 1))) (zch q0w (pF q15 0 (muN q0w 1))) (zce q0t (pF q0z 0 (muN q0t 1))) (zce q0v (pF q13 0 (muN q0v 1))) (zce q0w (pF q15 0 (muN q0w 1)))))))
noncomputable def z82 (q0t : Nat) (q0z : List Nat) (q0v : Nat) (q13 : List Nat) (q0w : Nat) (q15 : List Nat) : Option (Nat × Nat × Nat × (List Nat) × (List Nat) × (List Nat)) := zdv q0t q0z q0v q13 q0w q15 (fun c0_ c1_ c2_ c3_ c4_ c5_ => some (c0_, c1_, c2_, c3_, c4_, c5_))
theorem zpv {R R' : Type} (o : Option R → Option R') (h0 : o none = none) (q0t : Nat) (q0z : List Nat) (q0v : Nat) (q13 : List Nat) (q0w : Nat) (q15 : List Nat) (k_ : Nat → Nat → Nat → (List Nat) → (List Nat) → (List Nat) → Option R) : zdv q0t q0z q0v q13 q0w q15 (fun c0_ c1_ c2_ c3_ c4_ c5_ => o (k_ c0_ c1_ c2_ c3_ c4_ c5_)) = o (zdv q0t q0z q0v q13 q0w q15 k_) := by
  unfold zdv
  repeat (first | refine grd_out h0 ?_ | refine br_out ?_ ?_ | rfl | exact h0.symm)
noncomputable def zkw (q0t : Nat) (q0z : List Nat) (q0v : Nat) (q13 : List Nat) (q0w : Nat) (q15 : List Nat) : Bool := (z82 q0t q0z q0v q13 q0w q15).isSome
noncomputable def zjp (q0t : Nat) (q0z : List Nat) (q0v : Nat) (q13 : List Nat) (q0w : Nat) (q15 : List Nat) : Nat := ((z82 q0t q0z q0v q13 q0w q15).getD default).1
noncomputable def zjt (q0t : Nat) (q0z : List Nat) (q0v : Nat) (q13 : List Nat) (q0w : Nat) (q15 : List Nat) : Nat := ((z82 q0t q0z q0v q13 q0w q15).getD default).2.1
noncomputable def zjr (q0t : Nat) (q0z : List Nat) (q0v : Nat) (q13 : List Nat) (q0w : Nat) (q15 : List Nat) : Nat := ((z82 q0t q0z q0v q13 q0w q15).getD default).2.2.1
noncomputable def zjn (q0t : Nat) (q0z : List Nat) (q0v : Nat) (q13 : List Nat) (q0w : Nat) (q15 : List Nat) : List Nat := ((z82 q0t q0z q0v q13 q0w q15).getD default).2.2.2.1
noncomputable def zjs (q0t : Nat) (q0z : List Nat) (q0v : Nat) (q13 : List Nat) (q0w : Nat) (q15 : List Nat) : List Nat := ((z82 q0t q0z q0v q13 q0w q15).getD default).2.2.2.2.1
noncomputable def zjg (q0t : Nat) (q0z : List Nat) (q0v : Nat) (q13 : List Nat) (q0w : Nat) (q15 : List Nat) : List Nat := ((z82 q0t q0z q0v q13 q0w q15).getD default).2.2.2.2.2
theorem zrt {q0t : Nat} {q0z : List Nat} {q0v : Nat} {q13 : List Nat} {q0w : Nat} {q15 : List Nat} {r : Nat × Nat × Nat × (List Nat) × (List Nat) × (List Nat)} (h : z82 q0t q0z q0v q13 q0w q15 = some r) : zkw q0t q0z q0v q13 q0w q15 = true ∧ zjp q0t q0z q0v q13 q0w q15 = r.1 ∧ zjt q0t q0z q0v q13 q0w q15 = r.2.1 ∧ zjr q0t q0z q0v q13 q0w q15 = r.2.2.1 ∧ zjn q0t q0z q0v q13 q0w q15 = r.2.2.2.1 ∧ zjs q0t q0z q0v q13 q0w q15 = r.2.2.2.2.1 ∧ zjg q0t q0z q0v q13 q0w q15 = r.2.2.2.2.2 := by
  unfold zkw zjp zjt zjr zjn zjs zjg
  rw [h]
  exact ⟨rfl, rfl, rfl, rfl, rfl, rfl, rfl⟩
noncomputable def zc9 {R : Type} (q0t : Nat) (q0z : List Nat) (q0v : Nat) (q13 : List Nat) (q0w : Nat) (q15 : List Nat) (k : Int) (k_ : Int → Option R) : Option R := (grd (zaz q0t (pF q0z 0 (muN q0t 1)) k) (br (ltI (z58 q0t (pF q0z 0 (muN q0t 1)) k) 0) (k_ (Int.negSucc 0)) (grd (zaz q0v (pF q13 0 (muN q0v 1)) (z58 q0t (pF q0z 0 (muN q0t 1)) k)) (br (ltI (z58 q0v (pF q13 0 (muN q0v 1)) (z58 q0t (pF q0z 0 (muN q0t 1)) k)) 0) (k_ (Int.negSucc 0)) (grd (zaz q0w (pF q15 0 (muN q0w 1)) (z58 q0v (pF q13 0 (muN q0v 1)) (z58 q0t (pF q0z 0 (muN q0t 1)) k))) (br (ltI (z58 q0w (pF q15 0 (muN q0w 1)) (z58 q0v (pF q13 0 (muN q0v 1)) (z58 q0t (pF q0z 0 (muN q0t 1)) k))) 0) (k_ (Int.negSucc 0)) (k_ (z58 q0w (pF q15 0 (muN q0w 1)) (z58 q0v (pF q13 0 (muN q0v 1)) (z58 q0t (pF q0z 0 (muN q0t 1)) k))))))))))
noncomputable def zcd (q0t : Nat) (q0z : List Nat) (q0v : Nat) (q13 : List Nat) (q0w : Nat) (q15 : List Nat) (k : Int) : Option (Int) := zc9 q0t q0z q0v q13 q0w q15 k (fun c0_ => some c0_)
theorem zol {R R' : Type} (o : Option R → Option R') (h0 : o none = none) (q0t : Nat) (q0z : List Nat) (q0v : Nat) (q13 : List Nat) (q0w : Nat) (q15 : List Nat) (k : Int) (k_ : Int → Option R) : zc9 q0t q0z q0v q13 q0w q15 k (fun c0_ => o (k_ c0_)) = o (zc9 q0t q0z q0v q13 q0w q15 k k_) := by
  unfold zc9
  repeat (first | refine grd_out h0 ?_ | refine br_out ?_ ?_ | rfl | exact h0.symm)
noncomputable def zhg (q0t : Nat) (q0z : List Nat) (q0v : Nat) (q13 : List Nat) (q0w : Nat) (q15 : List Nat) (k : Int) : Bool := (zcd q0t q0z q0v q13 q0w q15 k).isSome
noncomputable def z9z (q0t : Nat) (q0z : List Nat) (q0v : Nat) (q13 : List Nat) (q0w : Nat) (q15 : List Nat) (k : Int) : Int := ((zcd q0t q0z q0v q13 q0w q15 k).getD default)
theorem zqx {q0t : Nat} {q0z : List Nat} {q0v : Nat} {q13 : List Nat} {q0w : Nat} {q15 : List Nat} {k : Int} {r : Int} (h : zcd q0t q0z q0v q13 q0w q15 k = some r) : zhg q0t q0z q0v q13 q0w q15 k = true ∧ z9z q0t q0z q0v q13 q0w q15 k = r := by
  unfold zhg z9z
  rw [h]
  exact ⟨rfl, rfl⟩
noncomputable def zcy {R : Type} (a_n : Nat) (a : List Nat) (b_n : Nat) (b : List Nat) (k_ : Bool → Option R) : Option R := (br (neI (Int.ofNat a_n) (Int.ofNat b_n)) (k_ Bool.false) (grd (zeu a_n b_n a b 0) (br (ze9 a_n b_n a b 0) (k_ Bool.false) (k_ Bool.true))))
noncomputable def zd7 (a_n : Nat) (a : List Nat) (b_n : Nat) (b : List Nat) : Option (Bool) := zcy a_n a b_n b (fun c0_ => some c0_)
theorem zpo {R R' : Type} (o : Option R → Option R') (h0 : o none = none) (a_n : Nat) (a : List Nat) (b_n : Nat) (b : List Nat) (k_ : Bool → Option R) : zcy a_n a b_n b (fun c0_ => o (k_ c0_)) = o (zcy a_n a b_n b k_) := by
  unfold zcy
  repeat (first | refine grd_out h0 ?_ | refine br_out ?_ ?_ | rfl | exact h0.symm)
noncomputable def zd9 (a_n : Nat) (a : List Nat) (b_n : Nat) (b : List Nat) : Bool := (zd7 a_n a b_n b).isSome
noncomputable def zca (a_n : Nat) (a : List Nat) (b_n : Nat) (b : List Nat) : Bool := ((zd7 a_n a b_n b).getD default)
theorem zlu {a_n : Nat} {a : List Nat} {b_n : Nat} {b : List Nat} {r : Bool} (h : zd7 a_n a b_n b = some r) : zd9 a_n a b_n b = true ∧ zca a_n a b_n b = r := by
  unfold zd9 zca
  rw [h]
  exact ⟨rfl, rfl⟩
noncomputable def zdc {R : Type} (a_n : Nat) (a : List Nat) (k_ : Nat → (List Nat) → Option R) : Option R := (grd (okMk (Int.ofNat a_n) (Int.ofNat a_n) 12) (grd (zcw a_n (toN (Int.ofNat a_n)) a 0 (rF (muN (toN (Int.ofNat a_n)) 3))) (k_ (toN (Int.ofNat a_n)) (zag a_n (toN (Int.ofNat a_n)) a 0 (rF (muN (toN (Int.ofNat a_n)) 3))))))
noncomputable def zam (a_n : Nat) (a : List Nat) : Option (Nat × (List Nat)) := zdc a_n a (fun c0_ c1_ => some (c0_, c1_))
theorem zpi {R R' : Type} (o : Option R → Option R') (h0 : o none = none) (a_n : Nat) (a : List Nat) (k_ : Nat → (List Nat) → Option R) : zdc a_n a (fun c0_ c1_ => o (k_ c0_ c1_)) = o (zdc a_n a k_) := by
  unfold zdc
  repeat (first | refine grd_out h0 ?_ | refine br_out ?_ ?_ | rfl | exact h0.symm)
noncomputable def zjl (a_n : Nat) (a : List Nat) : Bool := (zam a_n a).isSome
noncomputable def zhe (a_n : Nat) (a : List Nat) : Nat := ((zam a_n a).getD default).1
noncomputable def zi1 (a_n : Nat) (a : List Nat) : List Nat := ((zam a_n a).getD default).2
theorem zrd {a_n : Nat} {a : List Nat} {r : Nat × (List Nat)} (h : zam a_n a = some r) : zjl a_n a = true ∧ zhe a_n a = r.1 ∧ zi1 a_n a = r.2 := by
  unfold zjl zhe zi1
  rw [h]
  exact ⟨rfl, rfl, rfl⟩
noncomputable def za6 {R : Type} (t3 : Int) (b0 : List Nat) (b1 : List Nat) (b2 : List Nat) (q27 : Nat) (q2n : Nat) (q2m : Nat) (t4 : Int) (kn_ : Int → Option R) (k0_ : Unit → Option R) (k1_ : Int → Bool → Option R) : Option R := (br (ltI t4 t3) (grd (okIx t4 q27) (br (fcmp BinOp.geq FloatKind.f32 (gF b0 (ixO 0 t4 1)) 3204448256) (grd (okIx t4 q27) (br (bnot (fcmp BinOp.leq FloatKind.f32 (gF b0 (ixO 0 t4 1)) 1056964608)) (k0_ ()) (br (ltI 0 t4) (grd (okIx t4 q27) (grd (okIx (subI IntKind.i64 t4 1) q27) (br (fcmp BinOp.leq FloatKind.f32 (gF b0 (ixO 0 t4 1)) (gF b0 (ixO 0 (subI IntKind.i64 t4 1) 1))) (k0_ ()) (grd (okIx t4 q2n) (grd (z81 (gF b1 (ixO 0 t4 1))) (br (bnot (z7p (gF b1 (ixO 0 t4 1)))) (k0_ ()) (grd (okIx t4 q2m) (grd (zar (gF b2 (ixO 0 t4 1))) (br (bnot (za9 (gF b2 (ixO 0 t4 1)))) (k0_ ()) (kn_ (addI IntKind.i64 t4 1))))))))))) (grd (okIx t4 q2n) (grd (z81 (gF b1 (ixO 0 t4 1))) (br (bnot (z7p (gF b1 (ixO 0 t4 1)))) (k0_ ()) (grd (okIx t4 q2m) (grd (zar (gF b2 (ixO 0 t4 1))) (br (bnot (za9 (gF b2 (ixO 0 t4 1)))) (k0_ ()) (kn_ (addI IntKind.i64 t4 1))))))))))) (br (bnot Bool.false) (k0_ ()) (br (ltI 0 t4) (grd (okIx t4 q27) (grd (okIx (subI IntKind.i64 t4 1) q27) (br (fcmp BinOp.leq FloatKind.f32 (gF b0 (ixO 0 t4 1)) (gF b0 (ixO 0 (subI IntKind.i64 t4 1) 1))) (k0_ ()) (grd (okIx t4 q2n) (grd (z81 (gF b1 (ixO 0 t4 1))) (br (bnot (z7p (gF b1 (ixO 0 t4 1)))) (k0_ ()) (grd (okIx t4 q2m) (grd (zar (gF b2 (ixO 0 t4 1))) (br (bnot (za9 (gF b2 (ixO 0 t4 1)))) (k0_ ()) (kn_ (addI IntKind.i64 t4 1))))))))))) (grd (okIx t4 q2n) (grd (z81 (gF b1 (ixO 0 t4 1))) (br (bnot (z7p (gF b1 (ixO 0 t4 1)))) (k0_ ()) (grd (okIx t4 q2m) (grd (zar (gF b2 (ixO 0 t4 1))) (br (bnot (za9 (gF b2 (ixO 0 t4 1)))) (k0_ ()) (kn_ (addI IntKind.i64 t4 1)))))))))))) (k1_ t4 (ltI t4 t3)))
theorem zqv {R R' : Type} (o : Option R → Option R') (h0 : o none = none) (t3 : Int) (b0 : List Nat) (b1 : List Nat) (b2 : List Nat) (q27 : Nat) (q2n : Nat) (q2m : Nat) (t4 : Int) (kn_ : Int → Option R) (k0_ : Unit → Option R) (k1_ : Int → Bool → Option R) : za6 t3 b0 b1 b2 q27 q2n q2m t4 (fun t4' => o (kn_ t4')) (fun _ => o (k0_ ())) (fun c0_ c1_ => o (k1_ c0_ c1_)) = o (za6 t3 b0 b1 b2 q27 q2n q2m t4 kn_ k0_ k1_) := by
  unfold za6
  repeat (first | refine grd_out h0 ?_ | refine br_out ?_ ?_ | rfl | exact h0.symm)
noncomputable def z7f (t3 : Int) (b0 : List Nat) (b1 : List Nat) (b2 : List Nat) (q27 : Nat) (q2n : Nat) (q2m : Nat) : Nat → Int → Option ((Unit) ⊕ (Int × Bool))
  | 0, _ => none
  | n + 1, t4 => za6 t3 b0 b1 b2 q27 q2n q2m  t4  (fun t4' => z7f t3 b0 b1 b2 q27 q2n q2m n t4') (fun _ => some (Sum.inl ())) (fun c0_ c1_ => some (Sum.inr (c0_, c1_)))
theorem zmm (t3 : Int) (b0 : List Nat) (b1 : List Nat) (b2 : List Nat) (q27 : Nat) (q2n : Nat) (q2m : Nat) (n : Nat) (t4 : Int) : z7f t3 b0 b1 b2 q27 q2n q2m (n + 1) t4 = za6 t3 b0 b1 b2 q27 q2n q2m  t4  (fun t4' => z7f t3 b0 b1 b2 q27 q2n q2m n t4') (fun _ => some (Sum.inl ())) (fun c0_ c1_ => some (Sum.inr (c0_, c1_))) := rfl
noncomputable def zas (t3 : Int) (b0 : List Nat) (b1 : List Nat) (b2 : List Nat) (q27 : Nat) (q2n : Nat) (q2m : Nat) (t4 : Int) : Bool := (z7f t3 b0 b1 b2 q27 q2n q2m big t4).isSome
noncomputable def za8 (t3 : Int) (b0 : List Nat) (b1 : List Nat) (b2 : List Nat) (q27 : Nat) (q2n : Nat) (q2m : Nat) (t4 : Int) : Bool := oL (z7f t3 b0 b1 b2 q27 q2n q2m big t4)
noncomputable def zlp (t3 : Int) (b0 : List Nat) (b1 : List Nat) (b2 : List Nat) (q27 : Nat) (q2n : Nat) (q2m : Nat) (t4 : Int) : Int := ((tR (z7f t3 b0 b1 b2 q27 q2n q2m big t4)).getD default).1
noncomputable def zlr (t3 : Int) (b0 : List Nat) (b1 : List Nat) (b2 : List Nat) (q27 : Nat) (q2n : Nat) (q2m : Nat) (t4 : Int) : Bool := ((tR (z7f t3 b0 b1 b2 q27 q2n q2m big t4)).getD default).2
theorem zrn {t3 : Int} {b0 : List Nat} {b1 : List Nat} {b2 : List Nat} {q27 : Nat} {q2n : Nat} {q2m : Nat} {t4 : Int} {m : Nat} {r : Unit} (hm : m = big) (h : z7f t3 b0 b1 b2 q27 q2n q2m m t4 = some (Sum.inl r)) : zas t3 b0 b1 b2 q27 q2n q2m t4 = true ∧ za8 t3 b0 b1 b2 q27 q2n q2m t4 = true := by
  subst hm
  unfold zas za8
  rw [h]
  exact ⟨rfl, rfl⟩
theorem zs2 {t3 : Int} {b0 : List Nat} {b1 : List Nat} {b2 : List Nat} {q27 : Nat} {q2n : Nat} {q2m : Nat} {t4 : Int} {m : Nat} {r : Int × Bool} (hm : m = big) (h : z7f t3 b0 b1 b2 q27 q2n q2m m t4 = some (Sum.inr r)) : zas t3 b0 b1 b2 q27 q2n q2m t4 = true ∧ za8 t3 b0 b1 b2 q27 q2n q2m t4 = false ∧ zlp t3 b0 b1 b2 q27 q2n q2m t4 = r.1 ∧ zlr t3 b0 b1 b2 q27 q2n q2m t4 = r.2 := by
  subst hm
  unfold zas za8 zlp zlr
  rw [h]
  exact ⟨rfl, rfl, rfl, rfl⟩
noncomputable def z7u {R : Type} (an : Nat) (bn : Nat) (b0 : List Nat) (b1 : List Nat) (i : Int) (kn_ : Int → Option R) (k0_ : Unit → Option R) (k1_ : Int → Bool → Option R) : Option R := (br (ltI i (Int.ofNat an)) (grd (okIx i an) (grd (okIx i bn) (grd (zl4 (gF b0 (ixO 0 i 3)) (gF b0 (Nat.succ (ixO 0 i 3))) (gF b0 (Nat.succ (Nat.succ (ixO 0 i 3)))) (gF b1 (ixO 0 i 3)) (gF b1 (Nat.succ (ixO 0 i 3))) (gF b1 (Nat.succ (Nat.succ (ixO 0 i 3))))) (br (bnot (zjj (gF b0 (ixO 0 i 3)) (gF b0 (Nat.succ (ixO 0 i 3))) (gF b0 (Nat.succ (Nat.succ (ixO 0 i 3)))) (gF b1 (ixO 0 i 3)) (gF b1 (Nat.succ (ixO 0 i 3))) (gF b1 (Nat.succ (Nat.succ (ixO 0 i 3)))))) (k0_ ()) (kn_ (addI IntKind.i64 i 1)))))) (k1_ i (ltI i (Int.ofNat an))))
theorem zo1 {R R' : Type} (o : Option R → Option R') (h0 : o none = none) (an : Nat) (bn : Nat) (b0 : List Nat) (b1 : List Nat) (i : Int) (kn_ : Int → Option R) (k0_ : Unit → Option R) (k1_ : Int → Bool → Option R) : z7u an bn b0 b1 i (fun i' => o (kn_ i')) (fun _ => o (k0_ ())) (fun c0_ c1_ => o (k1_ c0_ c1_)) = o (z7u an bn b0 b1 i kn_ k0_ k1_) := by
  unfold z7u
  repeat (first | refine grd_out h0 ?_ | refine br_out ?_ ?_ | rfl | exact h0.symm)
noncomputable def z66 (an : Nat) (bn : Nat) (b0 : List Nat) (b1 : List Nat) : Nat → Int → Option ((Unit) ⊕ (Int × Bool))
  | 0, _ => none
  | n + 1, i => z7u an bn b0 b1  i  (fun i' => z66 an bn b0 b1 n i') (fun _ => some (Sum.inl ())) (fun c0_ c1_ => some (Sum.inr (c0_, c1_)))
theorem zll (an : Nat) (bn : Nat) (b0 : List Nat) (b1 : List Nat) (n : Nat) (i : Int) : z66 an bn b0 b1 (n + 1) i = z7u an bn b0 b1  i  (fun i' => z66 an bn b0 b1 n i') (fun _ => some (Sum.inl ())) (fun c0_ c1_ => some (Sum.inr (c0_, c1_))) := rfl
noncomputable def zcr (an : Nat) (bn : Nat) (b0 : List Nat) (b1 : List Nat) (i : Int) : Bool := (z66 an bn b0 b1 big i).isSome
noncomputable def zcg (an : Nat) (bn : Nat) (b0 : List Nat) (b1 : List Nat) (i : Int) : Bool := oL (z66 an bn b0 b1 big i)
noncomputable def zgp (an : Nat) (bn : Nat) (b0 : List Nat) (b1 : List Nat) (i : Int) : Int := ((tR (z66 an bn b0 b1 big i)).getD default).1
noncomputable def zgc (an : Nat) (bn : Nat) (b0 : List Nat) (b1 : List Nat) (i : Int) : Bool := ((tR (z66 an bn b0 b1 big i)).getD default).2
theorem zp0 {an : Nat} {bn : Nat} {b0 : List Nat} {b1 : List Nat} {i : Int} {m : Nat} {r : Int × Bool} (hm : m = big) (h : z66 an bn b0 b1 m i = some (Sum.inr r)) : zcr an bn b0 b1 i = true ∧ zcg an bn b0 b1 i = false ∧ zgp an bn b0 b1 i = r.1 ∧ zgc an bn b0 b1 i = r.2 := by
  subst hm
  unfold zcr zcg zgp zgc
  rw [h]
  exact ⟨rfl, rfl, rfl, rfl⟩
noncomputable def z4m {R : Type} (sn : Nat) (t7 : Int) (b0 : List Nat) (t8 : Int) (kn_ : Int → Option R) (k0_ : Int → Option R) (k1_ : Int → Bool → Option R) : Option R := (br (ltI t8 t7) (grd (okIx t8 sn) (grd (zha (gF b0 (ixO 0 t8 1))) (br (zfp (gF b0 (ixO 0 t8 1))) (k0_ t8) (kn_ (addI IntKind.i64 t8 1))))) (k1_ t8 (ltI t8 t7)))
theorem zgn {R R' : Type} (o : Option R → Option R') (h0 : o none = none) (sn : Nat) (t7 : Int) (b0 : List Nat) (t8 : Int) (kn_ : Int → Option R) (k0_ : Int → Option R) (k1_ : Int → Bool → Option R) : z4m sn t7 b0 t8 (fun t8' => o (kn_ t8')) (fun c0_ => o (k0_ c0_)) (fun c0_ c1_ => o (k1_ c0_ c1_)) = o (z4m sn t7 b0 t8 kn_ k0_ k1_) := by
  unfold z4m
  repeat (first | refine grd_out h0 ?_ | refine br_out ?_ ?_ | rfl | exact h0.symm)
noncomputable def z2a (sn : Nat) (t7 : Int) (b0 : List Nat) : Nat → Int → Option ((Int) ⊕ (Int × Bool))
  | 0, _ => none
  | n + 1, t8 => z4m sn t7 b0  t8  (fun t8' => z2a sn t7 b0 n t8') (fun c0_ => some (Sum.inl c0_)) (fun c0_ c1_ => some (Sum.inr (c0_, c1_)))
theorem zac (sn : Nat) (t7 : Int) (b0 : List Nat) (n : Nat) (t8 : Int) : z2a sn t7 b0 (n + 1) t8 = z4m sn t7 b0  t8  (fun t8' => z2a sn t7 b0 n t8') (fun c0_ => some (Sum.inl c0_)) (fun c0_ c1_ => some (Sum.inr (c0_, c1_))) := rfl
noncomputable def z5k (sn : Nat) (t7 : Int) (b0 : List Nat) (t8 : Int) : Bool := (z2a sn t7 b0 big t8).isSome
noncomputable def z5h (sn : Nat) (t7 : Int) (b0 : List Nat) (t8 : Int) : Bool := oL (z2a sn t7 b0 big t8)
noncomputable def z6p (sn : Nat) (t7 : Int) (b0 : List Nat) (t8 : Int) : Int := ((tL (z2a sn t7 b0 big t8)).getD default)
noncomputable def z8v (sn : Nat) (t7 : Int) (b0 : List Nat) (t8 : Int) : Int := ((tR (z2a sn t7 b0 big t8)).getD default).1
noncomputable def z8u (sn : Nat) (t7 : Int) (b0 : List Nat) (t8 : Int) : Bool := ((tR (z2a sn t7 b0 big t8)).getD default).2
theorem zih {sn : Nat} {t7 : Int} {b0 : List Nat} {t8 : Int} {m : Nat} {r : Int} (hm : m = big) (h : z2a sn t7 b0 m t8 = some (Sum.inl r)) : z5k sn t7 b0 t8 = true ∧ z5h sn t7 b0 t8 = true ∧ z6p sn t7 b0 t8 = r := by
  subst hm
  unfold z5k z5h z6p
  rw [h]
  exact ⟨rfl, rfl, rfl⟩
theorem zik {sn : Nat} {t7 : Int} {b0 : List Nat} {t8 : Int} {m : Nat} {r : Int × Bool} (hm : m = big) (h : z2a sn t7 b0 m t8 = some (Sum.inr r)) : z5k sn t7 b0 t8 = true ∧ z5h sn t7 b0 t8 = false ∧ z8v sn t7 b0 t8 = r.1 ∧ z8u sn t7 b0 t8 = r.2 := by
  subst hm
  unfold z5k z5h z8v z8u
  rw [h]
  exact ⟨rfl, rfl, rfl, rfl⟩
noncomputable def z4g {R : Type} (sn : Nat) (t7 : Int) (b0 : List Nat) (t8 : Int) (kn_ : Int → Option R) (k0_ : Int → Option R) (k1_ : Int → Bool → Option R) : Option R := (br (ltI t8 t7) (grd (okIx t8 sn) (grd (zev (gF b0 (ixO 0 t8 1))) (br (zeh (gF b0 (ixO 0 t8 1))) (k0_ t8) (kn_ (addI IntKind.i64 t8 1))))) (k1_ t8 (ltI t8 t7)))
theorem zfj {R R' : Type} (o : Option R → Option R') (h0 : o none = none) (sn : Nat) (t7 : Int) (b0 : List Nat) (t8 : Int) (kn_ : Int → Option R) (k0_ : Int → Option R) (k1_ : Int → Bool → Option R) : z4g sn t7 b0 t8 (fun t8' => o (kn_ t8')) (fun c0_ => o (k0_ c0_)) (fun c0_ c1_ => o (k1_ c0_ c1_)) = o (z4g sn t7 b0 t8 kn_ k0_ k1_) := by
  unfold z4g
  repeat (first | refine grd_out h0 ?_ | refine br_out ?_ ?_ | rfl | exact h0.symm)
noncomputable def z23 (sn : Nat) (t7 : Int) (b0 : List Nat) : Nat → Int → Option ((Int) ⊕ (Int × Bool))
  | 0, _ => none
  | n + 1, t8 => z4g sn t7 b0  t8  (fun t8' => z23 sn t7 b0 n t8') (fun c0_ => some (Sum.inl c0_)) (fun c0_ c1_ => some (Sum.inr (c0_, c1_)))
theorem za7 (sn : Nat) (t7 : Int) (b0 : List Nat) (n : Nat) (t8 : Int) : z23 sn t7 b0 (n + 1) t8 = z4g sn t7 b0  t8  (fun t8' => z23 sn t7 b0 n t8') (fun c0_ => some (Sum.inl c0_)) (fun c0_ c1_ => some (Sum.inr (c0_, c1_))) := rfl
noncomputable def z5c (sn : Nat) (t7 : Int) (b0 : List Nat) (t8 : Int) : Bool := (z23 sn t7 b0 big t8).isSome
noncomputable def z5a (sn : Nat) (t7 : Int) (b0 : List Nat) (t8 : Int) : Bool := oL (z23 sn t7 b0 big t8)
noncomputable def z6c (sn : Nat) (t7 : Int) (b0 : List Nat) (t8 : Int) : Int := ((tL (z23 sn t7 b0 big t8)).getD default)
noncomputable def z84 (sn : Nat) (t7 : Int) (b0 : List Nat) (t8 : Int) : Int := ((tR (z23 sn t7 b0 big t8)).getD default).1
noncomputable def z85 (sn : Nat) (t7 : Int) (b0 : List Nat) (t8 : Int) : Bool := ((tR (z23 sn t7 b0 big t8)).getD default).2
theorem zgj {sn : Nat} {t7 : Int} {b0 : List Nat} {t8 : Int} {m : Nat} {r : Int} (hm : m = big) (h : z23 sn t7 b0 m t8 = some (Sum.inl r)) : z5c sn t7 b0 t8 = true ∧ z5a sn t7 b0 t8 = true ∧ z6c sn t7 b0 t8 = r := by
  subst hm
  unfold z5c z5a z6c
  rw [h]
  exact ⟨rfl, rfl, rfl⟩
theorem zgf {sn : Nat} {t7 : Int} {b0 : List Nat} {t8 : Int} {m : Nat} {r : Int × Bool} (hm : m = big) (h : z23 sn t7 b0 m t8 = some (Sum.inr r)) : z5c sn t7 b0 t8 = true ∧ z5a sn t7 b0 t8 = false ∧ z84 sn t7 b0 t8 = r.1 ∧ z85 sn t7 b0 t8 = r.2 := by
  subst hm
  unfold z5c z5a z84 z85
  rw [h]
  exact ⟨rfl, rfl, rfl, rfl⟩
noncomputable def zdp {R : Type} (q0t : Nat) (q0z : List Nat) (q0v : Nat) (q13 : List Nat) (q0w : Nat) (q15 : List Nat) (q32 : Nat) (q38 : List Nat) (q35 : Nat) (q3a : List Nat) (q34 : Nat) (q3b : List Nat) (k_ : Bool → Option R) : Option R := (grd (zd9 q0t (pF q0z 0 (muN q0t 1)) q32 (pF q38 0 (muN q32 1))) (br (bnot (zca q0t (pF q0z 0 (muN q0t 1)) q32 (pF q38 0 (muN q32 1)))) (k_ Bool.false) (grd (zd9 q0v (pF q13 0 (muN q0v 1)) q35 (pF q3a 0 (muN q35 1))) (br (bnot (zca q0v (pF q13 0 (muN q0v 1)) q35 (pF q3a 0 (muN q35 1)))) (k_ Bool.false) (grd (zd9 q0w (pF q15 0 (muN q0w 1)) q34 (pF q3b 0 (muN q34 1))) (br (bnot (zca q0w (pF q15 0 (muN q0w 1)) q34 (pF q3b 0 (muN q34 1)))) (k_ Bool.false) (k_ Bool.true)))))))
noncomputable def zdq (q0t : Nat) (q0z : List Nat) (q0v : Nat) (q13 : List Nat) (q0w : Nat) (q15 : List Nat) (q32 : Nat) (q38 : List Nat) (q35 : Nat) (q3a : List Nat) (q34 : Nat) (q3b : List Nat) : Option (Bool) := zdp q0t q0z q0v q13 q0w q15 q32 q38 q35 q3a q34 q3b (fun c0_ => some c0_)
theorem zpt {R R' : Type} (o : Option R → Option R') (h0 : o none = none) (q0t : Nat) (q0z : List Nat) (q0v : Nat) (q13 : List Nat) (q0w : Nat) (q15 : List Nat) (q32 : Nat) (q38 : List Nat) (q35 : Nat) (q3a : List Nat) (q34 : Nat) (q3b : List Nat) (k_ : Bool → Option R) : zdp q0t q0z q0v q13 q0w q15 q32 q38 q35 q3a q34 q3b (fun c0_ => o (k_ c0_)) = o (zdp q0t q0z q0v q13 q0w q15 q32 q38 q35 q3a q34 q3b k_) := by
  unfold zdp
  repeat (first | refine grd_out h0 ?_ | refine br_out ?_ ?_ | rfl | exact h0.symm)
noncomputable def zl0 (q0t : Nat) (q0z : List Nat) (q0v : Nat) (q13 : List Nat) (q0w : Nat) (q15 : List Nat) (q32 : Nat) (q38 : List Nat) (q35 : Nat) (q3a : List Nat) (q34 : Nat) (q3b : List Nat) : Bool := (zdq q0t q0z q0v q13 q0w q15 q32 q38 q35 q3a q34 q3b).isSome
noncomputable def zji (q0t : Nat) (q0z : List Nat) (q0v : Nat) (q13 : List Nat) (q0w : Nat) (q15 : List Nat) (q32 : Nat) (q38 : List Nat) (q35 : Nat) (q3a : List Nat) (q34 : Nat) (q3b : List Nat) : Bool := ((zdq q0t q0z q0v q13 q0w q15 q32 q38 q35 q3a q34 q3b).getD default)
theorem zna {q0t : Nat} {q0z : List Nat} {q0v : Nat} {q13 : List Nat} {q0w : Nat} {q15 : List Nat} {q32 : Nat} {q38 : List Nat} {q35 : Nat} {q3a : List Nat} {q34 : Nat} {q3b : List Nat} {r : Bool} (h : zdq q0t q0z q0v q13 q0w q15 q32 q38 q35 q3a q34 q3b = some r) : zl0 q0t q0z q0v q13 q0w q15 q32 q38 q35 q3a q34 q3b = true ∧ zji q0t q0z q0v q13 q0w q15 q32 q38 q35 q3a q34 q3b = r := by
  unfold zl0 zji
  rw [h]
  exact ⟨rfl, rfl⟩
noncomputable def ze0 {R : Type} (q0j : Nat) (q0m : List Nat) (q0k : Nat) (q0o : List Nat) (q0l : Nat) (q0p : List Nat) (q0q : Nat) (q0u : List Nat) (q14 : Int) (q23 : Nat) (q24 : Nat) (k : Int) (k_ : Int → Option R) : Option R := (grd (zhg q0j (pF q0m 0 (muN q0j 1)) q0k (pF q0o 0 (muN q0k 1)) q0l (pF q0p 0 (muN q0l 1)) k) (br (ltI (z9z q0j (pF q0m 0 (muN q0j 1)) q0k (pF q0o 0 (muN q0k 1)) q0l (pF q0p 0 (muN q0l 1)) k) 0) (k_ (Int.negSucc 0)) (grd (zfq q0q (pF q0u 0 (muN q0q 3)) (z9z q0j (pF q0m 0 (muN q0j 1)) q0k (pF q0o 0 (muN q0k 1)) q0l (pF q0p 0 (muN q0l 1)) k)) (br (ltI (zcs q0q (pF q0u 0 (muN q0q 3)) (z9z q0j (pF q0m 0 (muN q0j 1)) q0k (pF q0o 0 (muN q0k 1)) q0l (pF q0p 0 (muN q0l 1)) k)) 0) (k_ (Int.negSucc 0)) (k_ (zcs q0q (pF q0u 0 (muN q0q 3)) (z9z q0j (pF q0m 0 (muN q0j 1)) q0k (pF q0o 0 (muN q0k 1)) q0l (pF q0p 0 (muN q0l 1)) k)))))))
noncomputable def zdo (q0j : Nat) (q0m : List Nat) (q0k : Nat) (q0o : List Nat) (q0l : Nat) (q0p : List Nat) (q0q : Nat) (q0u : List Nat) (q14 : Int) (q23 : Nat) (q24 : Nat) (k : Int) : Option (Int) := ze0 q0j q0m q0k q0o q0l q0p q0q q0u q14 q23 q24 k (fun c0_ => some c0_)
theorem zpz {R R' : Type} (o : Option R → Option R') (h0 : o none = none) (q0j : Nat) (q0m : List Nat) (q0k : Nat) (q0o : List Nat) (q0l : Nat) (q0p : List Nat) (q0q : Nat) (q0u : List Nat) (q14 : Int) (q23 : Nat) (q24 : Nat) (k : Int) (k_ : Int → Option R) : ze0 q0j q0m q0k q0o q0l q0p q0q q0u q14 q23 q24 k (fun c0_ => o (k_ c0_)) = o (ze0 q0j q0m q0k q0o q0l q0p q0q q0u q14 q23 q24 k k_) := by
  unfold ze0
  repeat (first | refine grd_out h0 ?_ | refine br_out ?_ ?_ | rfl | exact h0.symm)
noncomputable def zl7 (q0j : Nat) (q0m : List Nat) (q0k : Nat) (q0o : List Nat) (q0l : Nat) (q0p : List Nat) (q0q : Nat) (q0u : List Nat) (q14 : Int) (q23 : Nat) (q24 : Nat) (k : Int) : Bool := (zdo q0j q0m q0k q0o q0l q0p q0q q0u q14 q23 q24 k).isSome
noncomputable def zjk (q0j : Nat) (q0m : List Nat) (q0k : Nat) (q0o : List Nat) (q0l : Nat) (q0p : List Nat) (q0q : Nat) (q0u : List Nat) (q14 : Int) (q23 : Nat) (q24 : Nat) (k : Int) : Int := ((zdo q0j q0m q0k q0o q0l q0p q0q q0u q14 q23 q24 k).getD default)
theorem zrw {q0j : Nat} {q0m : List Nat} {q0k : Nat} {q0o : List Nat} {q0l : Nat} {q0p : List Nat} {q0q : Nat} {q0u : List Nat} {q14 : Int} {q23 : Nat} {q24 : Nat} {k : Int} {r : Int} (h : zdo q0j q0m q0k q0o q0l q0p q0q q0u q14 q23 q24 k = some r) : zl7 q0j q0m q0k q0o q0l q0p q0q q0u q14 q23 q24 k = true ∧ zjk q0j q0m q0k q0o q0l q0p q0q q0u q14 q23 q24 k = r := by
  unfold zl7 zjk
  rw [h]
  exact ⟨rfl, rfl⟩
noncomputable def zf7 {R : Type} (q0j : Nat) (q0m : List Nat) (q0k : Nat) (q0o : List Nat) (q0l : Nat) (q0p : List Nat) (q0q : Nat) (q0u : List Nat) (q14 : Int) (q23 : Nat) (q24 : Nat) (k_ : Nat → Nat → Nat → Nat → (List Nat) → (List Nat) → (List Nat) → (List Nat) → Option R) : Option R := (grd (zkw q0j (pF q0m 0 (muN q0j 1)) q0k (pF q0o 0 (muN q0k 1)) q0l (pF q0p 0 (muN q0l 1))) (grd (zjl q0q (pF q0u 0 (muN q0q 3))) (k_ (zjp q0j (pF q0m 0 (muN q0j 1)) q0k (pF q0o 0 (muN q0k 1)) q0l (pF q0p 0 (muN q0l 1))) (zjt q0j (pF q0m 0 (muN q0j 1)) q0k (pF q0o 0 (muN q0k 1)) q0l (pF q0p 0 (muN q0l 1))) (zjr q0j (pF q0m 0 (muN q0j 1)) q0k (pF q0o 0 (muN q0k 1)) q0l (pF q0p 0 (muN q0l 1))) (zhe q0q (pF q0u 0 (muN q0q 3))) (zjn q0j (pF q0m 0 (muN q0j 1)) q0k (pF q0o 0 (muN q0k 1)) q0l (pF q0p 0 (muN q0l 1))) (zjs q0j (pF q0m 0 (muN q0j 1)) q0k (pF q0o 0 (muN q0k 1)) q0l (pF q0p 0 (muN q0l 1))) (zjg q0j (pF q0m 0 (muN q0j 1)) q0k (pF q0o 0 (muN q0k 1)) q0l (pF q0p 0 (muN q0l 1))) (zi1 q0q (pF q0u 0 (muN q0q 3))))))
noncomputable def z7y (q0j : Nat) (q0m : List Nat) (q0k : Nat) (q0o : List Nat) (q0l : Nat) (q0p : List Nat) (q0q : Nat) (q0u : List Nat) (q14 : Int) (q23 : Nat) (q24 : Nat) : Option (Nat × Nat × Nat × Nat × (List Nat) × (List Nat) × (List Nat) × (List Nat)) := zf7 q0j q0m q0k q0o q0l q0p q0q q0u q14 q23 q24 (fun c0_ c1_ c2_ c3_ c4_ c5_ c6_ c7_ => some (c0_, c1_, c2_, c3_, c4_, c5_, c6_, c7_))
theorem zrm {R R' : Type} (o : Option R → Option R') (h0 : o none = none) (q0j : Nat) (q0m : List Nat) (q0k : Nat) (q0o : List Nat) (q0l : Nat) (q0p : List Nat) (q0q : Nat) (q0u : List Nat) (q14 : Int) (q23 : Nat) (q24 : Nat) (k_ : Nat → Nat → Nat → Nat → (List Nat) → (List Nat) → (List Nat) → (List Nat) → Option R) : zf7 q0j q0m q0k q0o q0l q0p q0q q0u q14 q23 q24 (fun c0_ c1_ c2_ c3_ c4_ c5_ c6_ c7_ => o (k_ c0_ c1_ c2_ c3_ c4_ c5_ c6_ c7_)) = o (zf7 q0j q0m q0k q0o q0l q0p q0q q0u q14 q23 q24 k_) := by
  unfold zf7
  repeat (first | refine grd_out h0 ?_ | refine br_out ?_ ?_ | rfl | exact h0.symm)
noncomputable def zjz (q0j : Nat) (q0m : List Nat) (q0k : Nat) (q0o : List Nat) (q0l : Nat) (q0p : List Nat) (q0q : Nat) (q0u : List Nat) (q14 : Int) (q23 : Nat) (q24 : Nat) : Bool := (z7y q0j q0m q0k q0o q0l q0p q0q q0u q14 q23 q24).isSome
noncomputable def zh3 (q0j : Nat) (q0m : List Nat) (q0k : Nat) (q0o : List Nat) (q0l : Nat) (q0p : List Nat) (q0q : Nat) (q0u : List Nat) (q14 : Int) (q23 : Nat) (q24 : Nat) : Nat := ((z7y q0j q0m q0k q0o q0l q0p q0q q0u q14 q23 q24).getD default).1
noncomputable def zh8 (q0j : Nat) (q0m : List Nat) (q0k : Nat) (q0o : List Nat) (q0l : Nat) (q0p : List Nat) (q0q : Nat) (q0u : List Nat) (q14 : Int) (q23 : Nat) (q24 : Nat) : Nat := ((z7y q0j q0m q0k q0o q0l q0p q0q q0u q14 q23 q24).getD default).2.1
noncomputable def zi5 (q0j : Nat) (q0m : List Nat) (q0k : Nat) (q0o : List Nat) (q0l : Nat) (q0p : List Nat) (q0q : Nat) (q0u : List Nat) (q14 : Int) (q23 : Nat) (q24 : Nat) : Nat := ((z7y q0j q0m q0k q0o q0l q0p q0q q0u q14 q23 q24).getD default).2.2.1
noncomputable def zho (q0j : Nat) (q0m : List Nat) (q0k : Nat) (q0o : List Nat) (q0l : Nat) (q0p : List Nat) (q0q : Nat) (q0u : List Nat) (q14 : Int) (q23 : Nat) (q24 : Nat) : Nat := ((z7y q0j q0m q0k q0o q0l q0p q0q q0u q14 q23 q24).getD default).2.2.2.1
noncomputable def zhu (q0j : Nat) (q0m : List Nat) (q0k : Nat) (q0o : List Nat) (q0l : Nat) (q0p : List Nat) (q0q : Nat) (q0u : List Nat) (q14 : Int) (q23 : Nat) (q24 : Nat) : List Nat := ((z7y q0j q0m q0k q0o q0l q0p q0q q0u q14 q23 q24).getD default).2.2.2.2.1
noncomputable def zh6 (q0j : Nat) (q0m : List Nat) (q0k : Nat) (q0o : List Nat) (q0l : Nat) (q0p : List Nat) (q0q : Nat) (q0u : List Nat) (q14 : Int) (q23 : Nat) (q24 : Nat) : List Nat := ((z7y q0j q0m q0k q0o q0l q0p q0q q0u q14 q23 q24).getD default).2.2.2.2.2.1
noncomputable def zhm (q0j : Nat) (q0m : List Nat) (q0k : Nat) (q0o : List Nat) (q0l : Nat) (q0p : List Nat) (q0q : Nat) (q0u : List Nat) (q14 : Int) (q23 : Nat) (q24 : Nat) : List Nat := ((z7y q0j q0m q0k q0o q0l q0p q0q q0u q14 q23 q24).getD default).2.2.2.2.2.2.1
noncomputable def zh0 (q0j : Nat) (q0m : List Nat) (q0k : Nat) (q0o : List Nat) (q0l : Nat) (q0p : List Nat) (q0q : Nat) (q0u : List Nat) (q14 : Int) (q23 : Nat) (q24 : Nat) : List Nat := ((z7y q0j q0m q0k q0o q0l q0p q0q q0u q14 q23 q24).getD default).2.2.2.2.2.2.2
theorem zst {q0j : Nat} {q0m : List Nat} {q0k : Nat} {q0o : List Nat} {q0l : Nat} {q0p : List Nat} {q0q : Nat} {q0u : List Nat} {q14 : Int} {q23 : Nat} {q24 : Nat} {r : Nat × Nat × Nat × Nat × (List Nat) × (List Nat) × (List Nat) × (List Nat)} (h : z7y q0j q0m q0k q0o q0l q0p q0q q0u q14 q23 q24 = some r) : zjz q0j q0m q0k q0o q0l q0p q0q q0u q14 q23 q24 = true ∧ zh3 q0j q0m q0k q0o q0l q0p q0q q0u q14 q23 q24 = r.1 ∧ zh8 q0j q0m q0k q0o q0l q0p q0q q0u q14 q23 q24 = r.2.1 ∧ zi5 q0j q0m q0k q0o q0l q0p q0q q0u q14 q23 q24 = r.2.2.1 ∧ zho q0j q0m q0k q0o q0l q0p q0q q0u q14 q23 q24 = r.2.2.2.1 ∧ zhu q0j q0m q0k q0o q0l q0p q0q q0u q14 q23 q24 = r.2.2.2.2.1 ∧ zh6 q0j q0m q0k q0o q0l q0p q0q q0u q14 q23 q24 = r.2.2.2.2.2.1 ∧ zhm q0j q0m q0k q0o q0l q0p q0q q0u q14 q23 q24 = r.2.2.2.2.2.2.1 ∧ zh0 q0j q0m q0k q0o q0l q0p q0q q0u q14 q23 q24 = r.2.2.2.2.2.2.2 := by
  unfold zjz zh3 zh8 zi5 zho zhu zh6 zhm zh0
  rw [h]
  exact ⟨rfl, rfl, rfl, rfl, rfl, rfl, rfl, rfl, rfl⟩
noncomputable def zjw {R : Type} (q10 : Nat) (q1q : List Nat) (q17 : Nat) (q1t : List Nat) (q16 : Nat) (q1s : List Nat) (k_ : Bool → Option R) : Option R := (br (ltI (Int.ofNat q10) 2) (k_ Bool.false) (br (ltI 24 (Int.ofNat q10)) (k_ Bool.false) (br (neI (Int.ofNat q17) (Int.ofNat q10)) (k_ Bool.false) (br (neI (Int.ofNat q16) (Int.ofNat q10)) (k_ Bool.false) (grd (zas (Int.ofNat q10) q1q q1t q1s q10 q17 q16 0) (br (za8 (Int.ofNat q10) q1q q1t q1s q10 q17 q16 0) (k_ Bool.false) (k_ Bool.true)))))))
noncomputable def zk0 (q10 : Nat) (q1q : List Nat) (q17 : Nat) (q1t : List Nat) (q16 : Nat) (q1s : List Nat) : Option (Bool) := zjw q10 q1q q17 q1t q16 q1s (fun c0_ => some c0_)
theorem zsi {R R' : Type} (o : Option R → Option R') (h0 : o none = none) (q10 : Nat) (q1q : List Nat) (q17 : Nat) (q1t : List Nat) (q16 : Nat) (q1s : List Nat) (k_ : Bool → Option R) : zjw q10 q1q q17 q1t q16 q1s (fun c0_ => o (k_ c0_)) = o (zjw q10 q1q q17 q1t q16 q1s k_) := by
  unfold zjw
  repeat (first | refine grd_out h0 ?_ | refine br_out ?_ ?_ | rfl | exact h0.symm)
noncomputable def zmk (q10 : Nat) (q1q : List Nat) (q17 : Nat) (q1t : List Nat) (q16 : Nat) (q1s : List Nat) : Bool := (zk0 q10 q1q q17 q1t q16 q1s).isSome
noncomputable def zmd (q10 : Nat) (q1q : List Nat) (q17 : Nat) (q1t : List Nat) (q16 : Nat) (q1s : List Nat) : Bool := ((zk0 q10 q1q q17 q1t q16 q1s).getD default)
theorem ztc {q10 : Nat} {q1q : List Nat} {q17 : Nat} {q1t : List Nat} {q16 : Nat} {q1s : List Nat} {r : Bool} (h : zk0 q10 q1q q17 q1t q16 q1s = some r) : zmk q10 q1q q17 q1t q16 q1s = true ∧ zmd q10 q1q q17 q1t q16 q1s = r := by
  unfold zmk zmd
  rw [h]
  exact ⟨rfl, rfl⟩
noncomputable def zd8 {R : Type} (a_n : Nat) (a : List Nat) (b_n : Nat) (b : List Nat) (k_ : Bool → Option R) : Option R := (br (neI (Int.ofNat a_n) (Int.ofNat b_n)) (k_ Bool.false) (grd (zcr a_n b_n a b 0) (br (zcg a_n b_n a b 0) (k_ Bool.false) (k_ Bool.true))))
noncomputable def zd4 (a_n : Nat) (a : List Nat) (b_n : Nat) (b : List Nat) : Option (Bool) := zd8 a_n a b_n b (fun c0_ => some c0_)
theorem zp6 {R R' : Type} (o : Option R → Option R') (h0 : o none = none) (a_n : Nat) (a : List Nat) (b_n : Nat) (b : List Nat) (k_ : Bool → Option R) : zd8 a_n a b_n b (fun c0_ => o (k_ c0_)) = o (zd8 a_n a b_n b k_) := by
  unfold zd8
  repeat (first | refine grd_out h0 ?_ | refine br_out ?_ ?_ | rfl | exact h0.symm)
noncomputable def zjh (a_n : Nat) (a : List Nat) (b_n : Nat) (b : List Nat) : Bool := (zd4 a_n a b_n b).isSome
noncomputable def zhv (a_n : Nat) (a : List Nat) (b_n : Nat) (b : List Nat) : Bool := ((zd4 a_n a b_n b).getD default)
theorem zms {a_n : Nat} {a : List Nat} {b_n : Nat} {b : List Nat} {r : Bool} (h : zd4 a_n a b_n b = some r) : zjh a_n a b_n b = true ∧ zhv a_n a b_n b = r := by
  unfold zjh zhv
  rw [h]
  exact ⟨rfl, rfl⟩
noncomputable def z5z {R : Type} (s_n : Nat) (s : List Nat) (k_ : Int → Option R) : Option R := (grd (z5k s_n (Int.ofNat s_n) s 0) (br (z5h s_n (Int.ofNat s_n) s 0) (k_ (z6p s_n (Int.ofNat s_n) s 0)) (k_ (Int.negSucc 0))))
noncomputable def z5y (s_n : Nat) (s : List Nat) : Option (Int) := z5z s_n s (fun c0_ => some c0_)
theorem zj0 {R R' : Type} (o : Option R → Option R') (h0 : o none = none) (s_n : Nat) (s : List Nat) (k_ : Int → Option R) : z5z s_n s (fun c0_ => o (k_ c0_)) = o (z5z s_n s k_) := by
  unfold z5z
  repeat (first | refine grd_out h0 ?_ | refine br_out ?_ ?_ | rfl | exact h0.symm)
noncomputable def z80 (s_n : Nat) (s : List Nat) : Bool := (z5y s_n s).isSome
noncomputable def z7w (s_n : Nat) (s : List Nat) : Int := ((z5y s_n s).getD default)
theorem zl6 {s_n : Nat} {s : List Nat} {r : Int} (h : z5y s_n s = some r) : z80 s_n s = true ∧ z7w s_n s = r := by
  unfold z80 z7w
  rw [h]
  exact ⟨rfl, rfl⟩
noncomputable def z5s {R : Type} (s_n : Nat) (s : List Nat) (k_ : Int → Option R) : Option R := (grd (z5c s_n (Int.ofNat s_n) s 0) (br (z5a s_n (Int.ofNat s_n) s 0) (k_ (z6c s_n (Int.ofNat s_n) s 0)) (k_ (Int.negSucc 0))))
noncomputable def z5r (s_n : Nat) (s : List Nat) : Option (Int) := z5s s_n s (fun c0_ => some c0_)
theorem zhi {R R' : Type} (o : Option R → Option R') (h0 : o none = none) (s_n : Nat) (s : List Nat) (k_ : Int → Option R) : z5s s_n s (fun c0_ => o (k_ c0_)) = o (z5s s_n s k_) := by
  unfold z5s
  repeat (first | refine grd_out h0 ?_ | refine br_out ?_ ?_ | rfl | exact h0.symm)
noncomputable def z7n (s_n : Nat) (s : List Nat) : Bool := (z5r s_n s).isSome
noncomputable def z7d (s_n : Nat) (s : List Nat) : Int := ((z5r s_n s).getD default)
theorem zk7 {s_n : Nat} {s : List Nat} {r : Int} (h : z5r s_n s = some r) : z7n s_n s = true ∧ z7d s_n s = r := by
  unfold z7n z7d
  rw [h]
  exact ⟨rfl, rfl⟩
noncomputable def z4p {R : Type} (sn : Nat) (t7 : Int) (b0 : List Nat) (t8 : Int) (kn_ : Int → Option R) (k0_ : Int → Option R) (k1_ : Int → Bool → Option R) : Option R := (br (ltI t8 t7) (grd (okIx t8 sn) (grd (zjo (gF b0 (ixO 0 t8 1))) (br (zgw (gF b0 (ixO 0 t8 1))) (k0_ t8) (kn_ (addI IntKind.i64 t8 1))))) (k1_ t8 (ltI t8 t7)))
theorem zhc {R R' : Type} (o : Option R → Option R') (h0 : o none = none) (sn : Nat) (t7 : Int) (b0 : List Nat) (t8 : Int) (kn_ : Int → Option R) (k0_ : Int → Option R) (k1_ : Int → Bool → Option R) : z4p sn t7 b0 t8 (fun t8' => o (kn_ t8')) (fun c0_ => o (k0_ c0_)) (fun c0_ c1_ => o (k1_ c0_ c1_)) = o (z4p sn t7 b0 t8 kn_ k0_ k1_) := by
  unfold z4p
  repeat (first | refine grd_out h0 ?_ | refine br_out ?_ ?_ | rfl | exact h0.symm)
noncomputable def z2i (sn : Nat) (t7 : Int) (b0 : List Nat) : Nat → Int → Option ((Int) ⊕ (Int × Bool))
  | 0, _ => none
  | n + 1, t8 => z4p sn t7 b0  t8  (fun t8' => z2i sn t7 b0 n t8') (fun c0_ => some (Sum.inl c0_)) (fun c0_ c1_ => some (Sum.inr (c0_, c1_)))
theorem zai (sn : Nat) (t7 : Int) (b0 : List Nat) (n : Nat) (t8 : Int) : z2i sn t7 b0 (n + 1) t8 = z4p sn t7 b0  t8  (fun t8' => z2i sn t7 b0 n t8') (fun c0_ => some (Sum.inl c0_)) (fun c0_ c1_ => some (Sum.inr (c0_, c1_))) := rfl
noncomputable def z5p (sn : Nat) (t7 : Int) (b0 : List Nat) (t8 : Int) : Bool := (z2i sn t7 b0 big t8).isSome
noncomputable def z5l (sn : Nat) (t7 : Int) (b0 : List Nat) (t8 : Int) : Bool := oL (z2i sn t7 b0 big t8)
noncomputable def z6t (sn : Nat) (t7 : Int) (b0 : List Nat) (t8 : Int) : Int := ((tL (z2i sn t7 b0 big t8)).getD default)
noncomputable def z93 (sn : Nat) (t7 : Int) (b0 : List Nat) (t8 : Int) : Int := ((tR (z2i sn t7 b0 big t8)).getD default).1
noncomputable def z8w (sn : Nat) (t7 : Int) (b0 : List Nat) (t8 : Int) : Bool := ((tR (z2i sn t7 b0 big t8)).getD default).2
theorem zj9 {sn : Nat} {t7 : Int} {b0 : List Nat} {t8 : Int} {m : Nat} {r : Int} (hm : m = big) (h : z2i sn t7 b0 m t8 = some (Sum.inl r)) : z5p sn t7 b0 t8 = true ∧ z5l sn t7 b0 t8 = true ∧ z6t sn t7 b0 t8 = r := by
  subst hm
  unfold z5p z5l z6t
  rw [h]
  exact ⟨rfl, rfl, rfl⟩
theorem zjd {sn : Nat} {t7 : Int} {b0 : List Nat} {t8 : Int} {m : Nat} {r : Int × Bool} (hm : m = big) (h : z2i sn t7 b0 m t8 = some (Sum.inr r)) : z5p sn t7 b0 t8 = true ∧ z5l sn t7 b0 t8 = false ∧ z93 sn t7 b0 t8 = r.1 ∧ z8w sn t7 b0 t8 = r.2 := by
  subst hm
  unfold z5p z5l z93 z8w
  rw [h]
  exact ⟨rfl, rfl, rfl, rfl⟩
noncomputable def zds {R : Type} (q0j : Nat) (q0m : List Nat) (q0k : Nat) (q0o : List Nat) (q0l : Nat) (q0p : List Nat) (q0q : Nat) (q0u : List Nat) (q14 : Int) (q23 : Nat) (q24 : Nat) (q29 : Nat) (q2d : List Nat) (q2b : Nat) (q2f : List Nat) (q2a : Nat) (q2e : List Nat) (q2q : Nat) (q33 : List Nat) (q3e : Int) (q3g : Nat) (q3f : Nat) (k_ : Bool → Option R) : Option R := (grd (zl0 q0j (pF q0m 0 (muN q0j 1)) q0k (pF q0o 0 (muN q0k 1)) q0l (pF q0p 0 (muN q0l 1)) q29 (pF q2d 0 (muN q29 1)) q2b (pF q2f 0 (muN q2b 1)) q2a (pF q2e 0 (muN q2a 1))) (br (bnot (zji q0j (pF q0m 0 (muN q0j 1)) q0k (pF q0o 0 (muN q0k 1)) q0l (pF q0p 0 (muN q0l 1)) q29 (pF q2d 0 (muN q29 1)) q2b (pF q2f 0 (muN q2b 1)) q2a (pF q2e 0 (muN q2a 1)))) (k_ Bool.false) (grd (zjh q0q (pF q0u 0 (muN q0q 3)) q2q (pF q33 0 (muN q2q 3))) (br (bnot (zhv q0q (pF q0u 0 (muN q0q 3)) q2q (pF q33 0 (muN q2q 3)))) (k_ Bool.false) (br (neI q14 q3e) (k_ Bool.false) (grd (z9j (fcvV FloatKind.f32 FloatKind.f64 q23) (fcvV FloatKind.f32 FloatKind.f64 q3g)) (br (bnot (z97 (fcvV FloatKind.f32 FloatKind.f64 q23) (fcvV FloatKind.f32 FloatKind.f64 q3g))) (k_ Bool.false) (grd (z9j (fcvV FloatKind.f32 FloatKind.f64 q24) (fcvV FloatKind.f32 FloatKind.f64 q3f)) (br (bnot (z97 (fcvV FloatKind.f32 FloatKind.f64 q24) (fcvV FloatKind.f32 FloatKind.f64 q3f))) (k_ Bool.false) (k_ Bool.true))))))))))
noncomputable def zci (q0j : Nat) (q0m : List Nat) (q0k : Nat) (q0o : List Nat) (q0l : Nat) (q0p : List Nat) (q0q : Nat) (q0u : List Nat) (q14 : Int) (q23 : Nat) (q24 : Nat) (q29 : Nat) (q2d : List Nat) (q2b : Nat) (q2f : List Nat) (q2a : Nat) (q2e : List Nat) (q2q : Nat) (q33 : List Nat) (q3e : Int) (q3g : Nat) (q3f : Nat) : Option (Bool) := zds q0j q0m q0k q0o q0l q0p q0q q0u q14 q23 q24 q29 q2d q2b q2f q2a q2e q2q q33 q3e q3g q3f (fun c0_ => some c0_)
theorem zrf {R R' : Type} (o : Option R → Option R') (h0 : o none = none) (q0j : Nat) (q0m : List Nat) (q0k : Nat) (q0o : List Nat) (q0l : Nat) (q0p : List Nat) (q0q : Nat) (q0u : List Nat) (q14 : Int) (q23 : Nat) (q24 : Nat) (q29 : Nat) (q2d : List Nat) (q2b : Nat) (q2f : List Nat) (q2a : Nat) (q2e : List Nat) (q2q : Nat) (q33 : List Nat) (q3e : Int) (q3g : Nat) (q3f : Nat) (k_ : Bool → Option R) : zds q0j q0m q0k q0o q0l q0p q0q q0u q14 q23 q24 q29 q2d q2b q2f q2a q2e q2q q33 q3e q3g q3f (fun c0_ => o (k_ c0_)) = o (zds q0j q0m q0k q0o q0l q0p q0q q0u q14 q23 q24 q29 q2d q2b q2f q2a q2e q2q q33 q3e q3g q3f k_) := by
  unfold zds
  repeat (first | refine grd_out h0 ?_ | refine br_out ?_ ?_ | rfl | exact h0.symm)
noncomputable def zf5 (q0j : Nat) (q0m : List Nat) (q0k : Nat) (q0o : List Nat) (q0l : Nat) (q0p : List Nat) (q0q : Nat) (q0u : List Nat) (q14 : Int) (q23 : Nat) (q24 : Nat) (q29 : Nat) (q2d : List Nat) (q2b : Nat) (q2f : List Nat) (q2a : Nat) (q2e : List Nat) (q2q : Nat) (q33 : List Nat) (q3e : Int) (q3g : Nat) (q3f : Nat) : Bool := (zci q0j q0m q0k q0o q0l q0p q0q q0u q14 q23 q24 q29 q2d q2b q2f q2a q2e q2q q33 q3e q3g q3f).isSome
noncomputable def zed (q0j : Nat) (q0m : List Nat) (q0k : Nat) (q0o : List Nat) (q0l : Nat) (q0p : List Nat) (q0q : Nat) (q0u : List Nat) (q14 : Int) (q23 : Nat) (q24 : Nat) (q29 : Nat) (q2d : List Nat) (q2b : Nat) (q2f : List Nat) (q2a : Nat) (q2e : List Nat) (q2q : Nat) (q33 : List Nat) (q3e : Int) (q3g : Nat) (q3f : Nat) : Bool := ((zci q0j q0m q0k q0o q0l q0p q0q q0u q14 q23 q24 q29 q2d q2b q2f q2a q2e q2q q33 q3e q3g q3f).getD default)
theorem zoj {q0j : Nat} {q0m : List Nat} {q0k : Nat} {q0o : List Nat} {q0l : Nat} {q0p : List Nat} {q0q : Nat} {q0u : List Nat} {q14 : Int} {q23 : Nat} {q24 : Nat} {q29 : Nat} {q2d : List Nat} {q2b : Nat} {q2f : List Nat} {q2a : Nat} {q2e : List Nat} {q2q : Nat} {q33 : List Nat} {q3e : Int} {q3g : Nat} {q3f : Nat} {r : Bool} (h : zci q0j q0m q0k q0o q0l q0p q0q q0u q14 q23 q24 q29 q2d q2b q2f q2a q2e q2q q33 q3e q3g q3f = some r) : zf5 q0j q0m q0k q0o q0l q0p q0q q0u q14 q23 q24 q29 q2d q2b q2f q2a q2e q2q q33 q3e q3g q3f = true ∧ zed q0j q0m q0k q0o q0l q0p q0q q0u q14 q23 q24 q29 q2d q2b q2f q2a q2e q2q q33 q3e q3g q3f = r := by
  unfold zf5 zed
  rw [h]
  exact ⟨rfl, rfl⟩
noncomputable def z61 {R : Type} (s_n : Nat) (s : List Nat) (k_ : Int → Option R) : Option R := (grd (z5p s_n (Int.ofNat s_n) s 0) (br (z5l s_n (Int.ofNat s_n) s 0) (k_ (z6t s_n (Int.ofNat s_n) s 0)) (k_ (Int.negSucc 0))))
noncomputable def z62 (s_n : Nat) (s : List Nat) : Option (Int) := z61 s_n s (fun c0_ => some c0_)
theorem zkd {R R' : Type} (o : Option R → Option R') (h0 : o none = none) (s_n : Nat) (s : List Nat) (k_ : Int → Option R) : z61 s_n s (fun c0_ => o (k_ c0_)) = o (z61 s_n s k_) := by
  unfold z61
  repeat (first | refine grd_out h0 ?_ | refine br_out ?_ ?_ | rfl | exact h0.symm)
noncomputable def z83 (s_n : Nat) (s : List Nat) : Bool := (z62 s_n s).isSome
noncomputable def z7z (s_n : Nat) (s : List Nat) : Int := ((z62 s_n s).getD default)
theorem zl8 {s_n : Nat} {s : List Nat} {r : Int} (h : z62 s_n s = some r) : z83 s_n s = true ∧ z7z s_n s = r := by
  unfold z83 z7z
  rw [h]
  exact ⟨rfl, rfl⟩
noncomputable def z5i {R : Type} (s_n : Nat) (s : List Nat) (k_ : Bool → Option R) : Option R := (grd (z80 s_n (pF s 0 (muN s_n 1))) (k_ (leI 0 (z7w s_n (pF s 0 (muN s_n 1))))))
noncomputable def z5j (s_n : Nat) (s : List Nat) : Option (Bool) := z5i s_n s (fun c0_ => some c0_)
theorem zg7 {R R' : Type} (o : Option R → Option R') (h0 : o none = none) (s_n : Nat) (s : List Nat) (k_ : Bool → Option R) : z5i s_n s (fun c0_ => o (k_ c0_)) = o (z5i s_n s k_) := by
  unfold z5i
  repeat (first | refine grd_out h0 ?_ | refine br_out ?_ ?_ | rfl | exact h0.symm)
noncomputable def z7h (s_n : Nat) (s : List Nat) : Bool := (z5j s_n s).isSome
noncomputable def z6z (s_n : Nat) (s : List Nat) : Bool := ((z5j s_n s).getD default)
theorem zj5 {s_n : Nat} {s : List Nat} {r : Bool} (h : z5j s_n s = some r) : z7h s_n s = true ∧ z6z s_n s = r := by
  unfold z7h z6z
  rw [h]
  exact ⟨rfl, rfl⟩
noncomputable def z5o {R : Type} (s_n : Nat) (s : List Nat) (k_ : Bool → Option R) : Option R := (grd (z83 s_n (pF s 0 (muN s_n 1))) (k_ (leI 0 (z7z s_n (pF s 0 (muN s_n 1))))))
noncomputable def z5q (s_n : Nat) (s : List Nat) : Option (Bool) := z5o s_n s (fun c0_ => some c0_)
theorem zhk {R R' : Type} (o : Option R → Option R') (h0 : o none = none) (s_n : Nat) (s : List Nat) (k_ : Bool → Option R) : z5o s_n s (fun c0_ => o (k_ c0_)) = o (z5o s_n s k_) := by
  unfold z5o
  repeat (first | refine grd_out h0 ?_ | refine br_out ?_ ?_ | rfl | exact h0.symm)
noncomputable def z7k (s_n : Nat) (s : List Nat) : Bool := (z5q s_n s).isSome
noncomputable def z7e (s_n : Nat) (s : List Nat) : Bool := ((z5q s_n s).getD default)
theorem zk3 {s_n : Nat} {s : List Nat} {r : Bool} (h : z5q s_n s = some r) : z7k s_n s = true ∧ z7e s_n s = r := by
  unfold z7k z7e
  rw [h]
  exact ⟨rfl, rfl⟩
noncomputable def z5d {R : Type} (s_n : Nat) (s : List Nat) (k_ : Bool → Option R) : Option R := (grd (z7n s_n (pF s 0 (muN s_n 1))) (k_ (leI 0 (z7d s_n (pF s 0 (muN s_n 1))))))
noncomputable def z5e (s_n : Nat) (s : List Nat) : Option (Bool) := z5d s_n s (fun c0_ => some c0_)
theorem zff {R R' : Type} (o : Option R → Option R') (h0 : o none = none) (s_n : Nat) (s : List Nat) (k_ : Bool → Option R) : z5d s_n s (fun c0_ => o (k_ c0_)) = o (z5d s_n s k_) := by
  unfold z5d
  repeat (first | refine grd_out h0 ?_ | refine br_out ?_ ?_ | rfl | exact h0.symm)
noncomputable def z6v (s_n : Nat) (s : List Nat) : Bool := (z5e s_n s).isSome
noncomputable def z6o (s_n : Nat) (s : List Nat) : Bool := ((z5e s_n s).getD default)
theorem zic {s_n : Nat} {s : List Nat} {r : Bool} (h : z5e s_n s = some r) : z6v s_n s = true ∧ z6o s_n s = r := by
  unfold z6v z6o
  rw [h]
  exact ⟨rfl, rfl⟩
noncomputable def za3 {R : Type} (t57 : Int) (b3 : List Nat) (q11 : Nat) (q0y : Nat) (t4 : Nat) (t58 : Int) (kn_ : Nat → Int → Option R) (k0_ : Unit → Option R) (k1_ : Nat → Int → Bool → Option R) : Option R := (br (ltI t58 t57) (grd (okIx t58 q11) (br (bnot (fcmp BinOp.gtr FloatKind.f32 (gF b3 (ixO 0 t58 3)) t4)) (k0_ ()) (br (bnot (fcmp BinOp.lss FloatKind.f32 (gF b3 (ixO 0 t58 3)) q0y)) (k0_ ()) (grd (zld (gF b3 (Nat.succ (ixO 0 t58 3)))) (br (bnot (zl5 (gF b3 (Nat.succ (ixO 0 t58 3))))) (k0_ ()) (grd (z81 (gF b3 (Nat.succ (Nat.succ (ixO 0 t58 3))))) (br (bnot (z7p (gF b3 (Nat.succ (Nat.succ (ixO 0 t58 3)))))) (k0_ ()) (kn_ (gF b3 (ixO 0 t58 3)) (addI IntKind.i64 t58 1))))))))) (k1_ t4 t58 (ltI t58 t57)))
theorem zr6 {R R' : Type} (o : Option R → Option R') (h0 : o none = none) (t57 : Int) (b3 : List Nat) (q11 : Nat) (q0y : Nat) (t4 : Nat) (t58 : Int) (kn_ : Nat → Int → Option R) (k0_ : Unit → Option R) (k1_ : Nat → Int → Bool → Option R) : za3 t57 b3 q11 q0y t4 t58 (fun t4' t58' => o (kn_ t4' t58')) (fun _ => o (k0_ ())) (fun c0_ c1_ c2_ => o (k1_ c0_ c1_ c2_)) = o (za3 t57 b3 q11 q0y t4 t58 kn_ k0_ k1_) := by
  unfold za3
  repeat (first | refine grd_out h0 ?_ | refine br_out ?_ ?_ | rfl | exact h0.symm)
noncomputable def z60 (t57 : Int) (b3 : List Nat) (q11 : Nat) (q0y : Nat) : Nat → Nat → Int → Option ((Unit) ⊕ (Nat × Int × Bool))
  | 0, _, _ => none
  | n + 1, t4, t58 => za3 t57 b3 q11 q0y  t4 t58  (fun t4' t58' => z60 t57 b3 q11 q0y n t4' t58') (fun _ => some (Sum.inl ())) (fun c0_ c1_ c2_ => some (Sum.inr (c0_, c1_, c2_)))
theorem zmn (t57 : Int) (b3 : List Nat) (q11 : Nat) (q0y : Nat) (n : Nat) (t4 : Nat) (t58 : Int) : z60 t57 b3 q11 q0y (n + 1) t4 t58 = za3 t57 b3 q11 q0y  t4 t58  (fun t4' t58' => z60 t57 b3 q11 q0y n t4' t58') (fun _ => some (Sum.inl ())) (fun c0_ c1_ c2_ => some (Sum.inr (c0_, c1_, c2_))) := rfl
noncomputable def zct (t57 : Int) (b3 : List Nat) (q11 : Nat) (q0y : Nat) (t4 : Nat) (t58 : Int) : Bool := (z60 t57 b3 q11 q0y big t4 t58).isSome
noncomputable def zc3 (t57 : Int) (b3 : List Nat) (q11 : Nat) (q0y : Nat) (t4 : Nat) (t58 : Int) : Bool := oL (z60 t57 b3 q11 q0y big t4 t58)
noncomputable def zlv (t57 : Int) (b3 : List Nat) (q11 : Nat) (q0y : Nat) (t4 : Nat) (t58 : Int) : Nat := ((tR (z60 t57 b3 q11 q0y big t4 t58)).getD default).1
noncomputable def zly (t57 : Int) (b3 : List Nat) (q11 : Nat) (q0y : Nat) (t4 : Nat) (t58 : Int) : Int := ((tR (z60 t57 b3 q11 q0y big t4 t58)).getD default).2.1
noncomputable def zlq (t57 : Int) (b3 : List Nat) (q11 : Nat) (q0y : Nat) (t4 : Nat) (t58 : Int) : Bool := ((tR (z60 t57 b3 q11 q0y big t4 t58)).getD default).2.2
theorem zs8 {t57 : Int} {b3 : List Nat} {q11 : Nat} {q0y : Nat} {t4 : Nat} {t58 : Int} {m : Nat} {r : Unit} (hm : m = big) (h : z60 t57 b3 q11 q0y m t4 t58 = some (Sum.inl r)) : zct t57 b3 q11 q0y t4 t58 = true ∧ zc3 t57 b3 q11 q0y t4 t58 = true := by
  subst hm
  unfold zct zc3
  rw [h]
  exact ⟨rfl, rfl⟩
theorem zru {t57 : Int} {b3 : List Nat} {q11 : Nat} {q0y : Nat} {t4 : Nat} {t58 : Int} {m : Nat} {r : Nat × Int × Bool} (hm : m = big) (h : z60 t57 b3 q11 q0y m t4 t58 = some (Sum.inr r)) : zct t57 b3 q11 q0y t4 t58 = true ∧ zc3 t57 b3 q11 q0y t4 t58 = false ∧ zlv t57 b3 q11 q0y t4 t58 = r.1 ∧ zly t57 b3 q11 q0y t4 t58 = r.2.1 ∧ zlq t57 b3 q11 q0y t4 t58 = r.2.2 := by
  subst hm
  unfold zct zc3 zlv zly zlq
  rw [h]
  exact ⟨rfl, rfl, rfl, rfl, rfl⟩
noncomputable def zjy {R : Type} (q00 : Nat) (q03 : List Nat) (q01 : Nat) (q04 : List Nat) (q02 : Nat) (q05 : List Nat) (q06 : Nat) (q07 : List Nat) (q0b : Int) (q0c : Nat) (q0d : Nat) (k_ : Bool → Option R) : Option R := (grd (zmk q00 (pF q03 0 (muN q00 1)) q01 (pF q04 0 (muN q01 1)) q02 (pF q05 0 (muN q02 1))) (br (bnot (zmd q00 (pF q03 0 (muN q00 1)) q01 (pF q04 0 (muN q01 1)) q02 (pF q05 0 (muN q02 1)))) (k_ Bool.false) (br (ltI (Int.ofNat q06) 2) (k_ Bool.false) (br (ltI 12 (Int.ofNat q06)) (k_ Bool.false) (grd (zml q0b 1 6) (br (bnot (zmg q0b 1 6)) (k_ Bool.false) (grd (zar q0c) (br (bnot (za9 q0c)) (k_ Bool.false) (grd (z81 q0d) (br (bnot (z7p q0d)) (k_ Bool.false) (grd (zct (Int.ofNat q06) q07 q06 q0d q0c 0) (br (zc3 (Int.ofNat q06) q07 q06 q0d q0c 0) (k_ Bool.false) (k_ Bool.true)))))))))))))
noncomputable def zk2 (q00 : Nat) (q03 : List Nat) (q01 : Nat) (q04 : List Nat) (q02 : Nat) (q05 : List Nat) (q06 : Nat) (q07 : List Nat) (q0b : Int) (q0c : Nat) (q0d : Nat) : Option (Bool) := zjy q00 q03 q01 q04 q02 q05 q06 q07 q0b q0c q0d (fun c0_ => some c0_)
theorem zsj {R R' : Type} (o : Option R → Option R') (h0 : o none = none) (q00 : Nat) (q03 : List Nat) (q01 : Nat) (q04 : List Nat) (q02 : Nat) (q05 : List Nat) (q06 : Nat) (q07 : List Nat) (q0b : Int) (q0c : Nat) (q0d : Nat) (k_ : Bool → Option R) : zjy q00 q03 q01 q04 q02 q05 q06 q07 q0b q0c q0d (fun c0_ => o (k_ c0_)) = o (zjy q00 q03 q01 q04 q02 q05 q06 q07 q0b q0c q0d k_) := by
  unfold zjy
  repeat (first | refine grd_out h0 ?_ | refine br_out ?_ ?_ | rfl | exact h0.symm)
noncomputable def zln (q00 : Nat) (q03 : List Nat) (q01 : Nat) (q04 : List Nat) (q02 : Nat) (q05 : List Nat) (q06 : Nat) (q07 : List Nat) (q0b : Int) (q0c : Nat) (q0d : Nat) : Bool := (zk2 q00 q03 q01 q04 q02 q05 q06 q07 q0b q0c q0d).isSome
noncomputable def zl9 (q00 : Nat) (q03 : List Nat) (q01 : Nat) (q04 : List Nat) (q02 : Nat) (q05 : List Nat) (q06 : Nat) (q07 : List Nat) (q0b : Int) (q0c : Nat) (q0d : Nat) : Bool := ((zk2 q00 q03 q01 q04 q02 q05 q06 q07 q0b q0c q0d).getD default)
theorem zqq {q00 : Nat} {q03 : List Nat} {q01 : Nat} {q04 : List Nat} {q02 : Nat} {q05 : List Nat} {q06 : Nat} {q07 : List Nat} {q0b : Int} {q0c : Nat} {q0d : Nat} {r : Bool} (h : zk2 q00 q03 q01 q04 q02 q05 q06 q07 q0b q0c q0d = some r) : zln q00 q03 q01 q04 q02 q05 q06 q07 q0b q0c q0d = true ∧ zl9 q00 q03 q01 q04 q02 q05 q06 q07 q0b q0c q0d = r := by
  unfold zln zl9
  rw [h]
  exact ⟨rfl, rfl⟩
noncomputable def zdu {R : Type} (q28 : Nat) (q2u : List Nat) (k_ : Bool → Option R) : Option R := (grd (z7h q28 (pF q2u 0 (muN q28 1))) (k_ (bnot (z6z q28 (pF q2u 0 (muN q28 1))))))
noncomputable def zdx (q28 : Nat) (q2u : List Nat) : Option (Bool) := zdu q28 q2u (fun c0_ => some c0_)
theorem zpw {R R' : Type} (o : Option R → Option R') (h0 : o none = none) (q28 : Nat) (q2u : List Nat) (k_ : Bool → Option R) : zdu q28 q2u (fun c0_ => o (k_ c0_)) = o (zdu q28 q2u k_) := by
  unfold zdu
  repeat (first | refine grd_out h0 ?_ | refine br_out ?_ ?_ | rfl | exact h0.symm)
noncomputable def zl3 (q28 : Nat) (q2u : List Nat) : Bool := (zdx q28 q2u).isSome
noncomputable def zjv (q28 : Nat) (q2u : List Nat) : Bool := ((zdx q28 q2u).getD default)
theorem zry {q28 : Nat} {q2u : List Nat} {r : Bool} (h : zdx q28 q2u = some r) : zl3 q28 q2u = true ∧ zjv q28 q2u = r := by
  unfold zl3 zjv
  rw [h]
  exact ⟨rfl, rfl⟩
noncomputable def zec {R : Type} (q28 : Nat) (q2u : List Nat) (k_ : Bool → Option R) : Option R := (grd (z7k q28 (pF q2u 0 (muN q28 1))) (k_ (bnot (z7e q28 (pF q2u 0 (muN q28 1))))))
noncomputable def zeb (q28 : Nat) (q2u : List Nat) : Option (Bool) := zec q28 q2u (fun c0_ => some c0_)
theorem zr0 {R R' : Type} (o : Option R → Option R') (h0 : o none = none) (q28 : Nat) (q2u : List Nat) (k_ : Bool → Option R) : zec q28 q2u (fun c0_ => o (k_ c0_)) = o (zec q28 q2u k_) := by
  unfold zec
  repeat (first | refine grd_out h0 ?_ | refine br_out ?_ ?_ | rfl | exact h0.symm)
noncomputable def zle (q28 : Nat) (q2u : List Nat) : Bool := (zeb q28 q2u).isSome
noncomputable def zkx (q28 : Nat) (q2u : List Nat) : Bool := ((zeb q28 q2u).getD default)
theorem zse {q28 : Nat} {q2u : List Nat} {r : Bool} (h : zeb q28 q2u = some r) : zle q28 q2u = true ∧ zkx q28 q2u = r := by
  unfold zle zkx
  rw [h]
  exact ⟨rfl, rfl⟩
noncomputable def zcb {R : Type} (q28 : Nat) (q2u : List Nat) (k_ : Bool → Option R) : Option R := (grd (z6v q28 (pF q2u 0 (muN q28 1))) (k_ (bnot (z6o q28 (pF q2u 0 (muN q28 1))))))
noncomputable def zaa (q28 : Nat) (q2u : List Nat) : Option (Bool) := zcb q28 q2u (fun c0_ => some c0_)
theorem zon {R R' : Type} (o : Option R → Option R') (h0 : o none = none) (q28 : Nat) (q2u : List Nat) (k_ : Bool → Option R) : zcb q28 q2u (fun c0_ => o (k_ c0_)) = o (zcb q28 q2u k_) := by
  unfold zcb
  repeat (first | refine grd_out h0 ?_ | refine br_out ?_ ?_ | rfl | exact h0.symm)
noncomputable def ze7 (q28 : Nat) (q2u : List Nat) : Bool := (zaa q28 q2u).isSome
noncomputable def zdm (q28 : Nat) (q2u : List Nat) : Bool := ((zaa q28 q2u).getD default)
theorem zqt {q28 : Nat} {q2u : List Nat} {r : Bool} (h : zaa q28 q2u = some r) : ze7 q28 q2u = true ∧ zdm q28 q2u = r := by
  unfold ze7 zdm
  rw [h]
  exact ⟨rfl, rfl⟩
noncomputable def z6x {R : Type} (q39 : Nat) (t43 : Int) (b0 : List Nat) (q27 : Nat) (t44 : Int) (kn_ : Int → Option R) (k0_ : Unit → Option R) (k1_ : Int → Bool → Option R) : Option R := (br (ltI t44 t43) (grd (okIx t44 q39) (grd (zli (gF b0 (ixO 0 t44 1)) 3204448256 1056964608) (br (bnot (zkz (gF b0 (ixO 0 t44 1)) 3204448256 1056964608)) (k0_ ()) (br (ltI 0 t44) (grd (okIx (subI IntKind.i64 t44 1) q27) (br (fcmp BinOp.geq FloatKind.f32 (gF b0 (ixO 0 (subI IntKind.i64 t44 1) 1)) (gF b0 (ixO 0 t44 1))) (k0_ ()) (kn_ (addI IntKind.i64 t44 1)))) (kn_ (addI IntKind.i64 t44 1)))))) (k1_ t44 (ltI t44 t43)))
theorem zmz {R R' : Type} (o : Option R → Option R') (h0 : o none = none) (q39 : Nat) (t43 : Int) (b0 : List Nat) (q27 : Nat) (t44 : Int) (kn_ : Int → Option R) (k0_ : Unit → Option R) (k1_ : Int → Bool → Option R) : z6x q39 t43 b0 q27 t44 (fun t44' => o (kn_ t44')) (fun _ => o (k0_ ())) (fun c0_ c1_ => o (k1_ c0_ c1_)) = o (z6x q39 t43 b0 q27 t44 kn_ k0_ k1_) := by
  unfold z6x
  repeat (first | refine grd_out h0 ?_ | refine br_out ?_ ?_ | rfl | exact h0.symm)
noncomputable def z5b (q39 : Nat) (t43 : Int) (b0 : List Nat) (q27 : Nat) : Nat → Int → Option ((Unit) ⊕ (Int × Bool))
  | 0, _ => none
  | n + 1, t44 => z6x q39 t43 b0 q27  t44  (fun t44' => z5b q39 t43 b0 q27 n t44') (fun _ => some (Sum.inl ())) (fun c0_ c1_ => some (Sum.inr (c0_, c1_)))
theorem zkt (q39 : Nat) (t43 : Int) (b0 : List Nat) (q27 : Nat) (n : Nat) (t44 : Int) : z5b q39 t43 b0 q27 (n + 1) t44 = z6x q39 t43 b0 q27  t44  (fun t44' => z5b q39 t43 b0 q27 n t44') (fun _ => some (Sum.inl ())) (fun c0_ c1_ => some (Sum.inr (c0_, c1_))) := rfl
noncomputable def z8y (q39 : Nat) (t43 : Int) (b0 : List Nat) (q27 : Nat) (t44 : Int) : Bool := (z5b q39 t43 b0 q27 big t44).isSome
noncomputable def z89 (q39 : Nat) (t43 : Int) (b0 : List Nat) (q27 : Nat) (t44 : Int) : Bool := oL (z5b q39 t43 b0 q27 big t44)
noncomputable def zex (q39 : Nat) (t43 : Int) (b0 : List Nat) (q27 : Nat) (t44 : Int) : Int := ((tR (z5b q39 t43 b0 q27 big t44)).getD default).1
noncomputable def zes (q39 : Nat) (t43 : Int) (b0 : List Nat) (q27 : Nat) (t44 : Int) : Bool := ((tR (z5b q39 t43 b0 q27 big t44)).getD default).2
theorem zny {q39 : Nat} {t43 : Int} {b0 : List Nat} {q27 : Nat} {t44 : Int} {m : Nat} {r : Unit} (hm : m = big) (h : z5b q39 t43 b0 q27 m t44 = some (Sum.inl r)) : z8y q39 t43 b0 q27 t44 = true ∧ z89 q39 t43 b0 q27 t44 = true := by
  subst hm
  unfold z8y z89
  rw [h]
  exact ⟨rfl, rfl⟩
theorem znp {q39 : Nat} {t43 : Int} {b0 : List Nat} {q27 : Nat} {t44 : Int} {m : Nat} {r : Int × Bool} (hm : m = big) (h : z5b q39 t43 b0 q27 m t44 = some (Sum.inr r)) : z8y q39 t43 b0 q27 t44 = true ∧ z89 q39 t43 b0 q27 t44 = false ∧ zex q39 t43 b0 q27 t44 = r.1 ∧ zes q39 t43 b0 q27 t44 = r.2 := by
  subst hm
  unfold z8y z89 zex zes
  rw [h]
  exact ⟨rfl, rfl, rfl, rfl⟩
noncomputable def zb2 {R : Type} (q10 : Nat) (q1q : List Nat) (q17 : Nat) (q1t : List Nat) (q16 : Nat) (q1s : List Nat) (k_ : Bool → Option R) : Option R := (br (ltI (Int.ofNat q10) 2) (k_ Bool.false) (br (ltI 24 (Int.ofNat q10)) (k_ Bool.false) (br (neI (Int.ofNat q17) (Int.ofNat q10)) (k_ Bool.false) (br (neI (Int.ofNat q16) (Int.ofNat q10)) (k_ Bool.false) (grd (zl3 q17 (pF q1t 0 (muN q17 1))) (br (bnot (zjv q17 (pF q1t 0 (muN q17 1)))) (k_ Bool.false) (grd (zle q16 (pF q1s 0 (muN q16 1))) (br (bnot (zkx q16 (pF q1s 0 (muN q16 1)))) (k_ Bool.false) (grd (z8y q10 (Int.ofNat q10) q1q q10 0) (br (z89 q10 (Int.ofNat q10) q1q q10 0) (k_ Bool.false) (k_ Bool.true)))))))))))
noncomputable def zb0 (q10 : Nat) (q1q : List Nat) (q17 : Nat) (q1t : List Nat) (q16 : Nat) (q1s : List Nat) : Option (Bool) := zb2 q10 q1q q17 q1t q16 q1s (fun c0_ => some c0_)
theorem zoc {R R' : Type} (o : Option R → Option R') (h0 : o none = none) (q10 : Nat) (q1q : List Nat) (q17 : Nat) (q1t : List Nat) (q16 : Nat) (q1s : List Nat) (k_ : Bool → Option R) : zb2 q10 q1q q17 q1t q16 q1s (fun c0_ => o (k_ c0_)) = o (zb2 q10 q1q q17 q1t q16 q1s k_) := by
  unfold zb2
  repeat (first | refine grd_out h0 ?_ | refine br_out ?_ ?_ | rfl | exact h0.symm)
noncomputable def zfy (q10 : Nat) (q1q : List Nat) (q17 : Nat) (q1t : List Nat) (q16 : Nat) (q1s : List Nat) : Bool := (zb0 q10 q1q q17 q1t q16 q1s).isSome
noncomputable def zeo (q10 : Nat) (q1q : List Nat) (q17 : Nat) (q1t : List Nat) (q16 : Nat) (q1s : List Nat) : Bool := ((zb0 q10 q1q q17 q1t q16 q1s).getD default)
theorem zqk {q10 : Nat} {q1q : List Nat} {q17 : Nat} {q1t : List Nat} {q16 : Nat} {q1s : List Nat} {r : Bool} (h : zb0 q10 q1q q17 q1t q16 q1s = some r) : zfy q10 q1q q17 q1t q16 q1s = true ∧ zeo q10 q1q q17 q1t q16 q1s = r := by
  unfold zfy zeo
  rw [h]
  exact ⟨rfl, rfl⟩
noncomputable def z7r {R : Type} (by_ : Nat) (t14 : Int) (q0x : Nat) (t15 : Int) (b9 : List Nat) (kn_ : Int → (List Nat) → Option R) (k0_ : Int → Bool → (List Nat) → Option R) : Option R := (br (ltI t15 t14) (grd (okIx t15 q0x) (grd (okIx t15 q0x) (kn_ (addI IntKind.i64 t15 1) (sF b9 (Nat.succ (Nat.succ (ixO 0 t15 3))) (fop BinOp.add FloatKind.f32 (gF b9 (Nat.succ (Nat.succ (ixO 0 t15 3)))) by_))))) (k0_ t15 (ltI t15 t14) b9))
theorem znx {R R' : Type} (o : Option R → Option R') (h0 : o none = none) (by_ : Nat) (t14 : Int) (q0x : Nat) (t15 : Int) (b9 : List Nat) (kn_ : Int → (List Nat) → Option R) (k0_ : Int → Bool → (List Nat) → Option R) : z7r by_ t14 q0x t15 b9 (fun t15' b9' => o (kn_ t15' b9')) (fun c0_ c1_ c2_ => o (k0_ c0_ c1_ c2_)) = o (z7r by_ t14 q0x t15 b9 kn_ k0_) := by
  unfold z7r
  repeat (first | refine grd_out h0 ?_ | refine br_out ?_ ?_ | rfl | exact h0.symm)
noncomputable def z53 (by_ : Nat) (t14 : Int) (q0x : Nat) : Nat → Int → (List Nat) → Option ((Int × Bool × (List Nat)))
  | 0, _, _ => none
  | n + 1, t15, b9 => z7r by_ t14 q0x  t15 b9  (fun t15' b9' => z53 by_ t14 q0x n t15' b9') (fun c0_ c1_ c2_ => some (c0_, c1_, c2_))
theorem zlk (by_ : Nat) (t14 : Int) (q0x : Nat) (n : Nat) (t15 : Int) (b9 : List Nat) : z53 by_ t14 q0x (n + 1) t15 b9 = z7r by_ t14 q0x  t15 b9  (fun t15' b9' => z53 by_ t14 q0x n t15' b9') (fun c0_ c1_ c2_ => some (c0_, c1_, c2_)) := rfl
noncomputable def zey (by_ : Nat) (t14 : Int) (q0x : Nat) (t15 : Int) (b9 : List Nat) : Bool := (z53 by_ t14 q0x big t15 b9).isSome
noncomputable def zg8 (by_ : Nat) (t14 : Int) (q0x : Nat) (t15 : Int) (b9 : List Nat) : Int := ((z53 by_ t14 q0x big t15 b9).getD default).1
noncomputable def zge (by_ : Nat) (t14 : Int) (q0x : Nat) (t15 : Int) (b9 : List Nat) : Bool := ((z53 by_ t14 q0x big t15 b9).getD default).2.1
noncomputable def z9g (by_ : Nat) (t14 : Int) (q0x : Nat) (t15 : Int) (b9 : List Nat) : List Nat := ((z53 by_ t14 q0x big t15 b9).getD default).2.2
theorem zow {by_ : Nat} {t14 : Int} {q0x : Nat} {t15 : Int} {b9 : List Nat} {m : Nat} {r : Int × Bool × (List Nat)} (hm : m = big) (h : z53 by_ t14 q0x m t15 b9 = some r) : zey by_ t14 q0x t15 b9 = true ∧ zg8 by_ t14 q0x t15 b9 = r.1 ∧ zge by_ t14 q0x t15 b9 = r.2.1 ∧ z9g by_ t14 q0x t15 b9 = r.2.2 := by
  subst hm
  unfold zey zg8 zge z9g
  rw [h]
  exact ⟨rfl, rfl, rfl, rfl⟩
noncomputable def zde {R : Type} (q08 : Nat) (q0e : List Nat) (q09 : Nat) (q0g : List Nat) (q0a : Nat) (q0f : List Nat) (q0h : Nat) (q0i : List Nat) (q0n : Int) (q0s : Nat) (q0r : Nat) (by_ : Nat) (k_ : Nat → Nat → Nat → Nat → Int → Nat → Nat → Bool → (List Nat) → (List Nat) → (List Nat) → (List Nat) → Option R) : Option R := (grd (zln q08 (pF q0e 0 (muN q08 1)) q09 (pF q0g 0 (muN q09 1)) q0a (pF q0f 0 (muN q0a 1)) q0h (pF q0i 0 (muN q0h 3)) q0n q0s q0r) (br (bnot (zl9 q08 (pF q0e 0 (muN q08 1)) q09 (pF q0g 0 (muN q09 1)) q0a (pF q0f 0 (muN q0a 1)) q0h (pF q0i 0 (muN q0h 3)) q0n q0s q0r)) (k_ 0 0 0 0 0 0 0 Bool.false [] [] [] []) (grd (zme q08 (pF q0e 0 (muN q08 1)) q09 (pF q0g 0 (muN q09 1)) q0a (pF q0f 0 (muN q0a 1)) q0h (pF q0i 0 (muN q0h 3)) q0n q0s q0r) (grd (zey by_ (Int.ofNat (z6b q08 (pF q0e 0 (muN q08 1)) q09 (pF q0g 0 (muN q09 1)) q0a (pF q0f 0 (muN q0a 1)) q0h (pF q0i 0 (muN q0h 3)) q0n q0s q0r)) (z6b q08 (pF q0e 0 (muN q08 1)) q09 (pF q0g 0 (muN q09 1)) q0a (pF q0f 0 (muN q0a 1)) q0h (pF q0i 0 (muN q0h 3)) q0n q0s q0r) 0 (ze1 q08 (pF q0e 0 (muN q08 1)) q09 (pF q0g 0 (muN q09 1)) q0a (pF q0f 0 (muN q0a 1)) q0h (pF q0i 0 (muN q0h 3)) q0n q0s q0r)) (grd (zln (zc4 q08 (pF q0e 0 (muN q08 1)) q09 (pF q0g 0 (muN q09 1)) q0a (pF q0f 0 (muN q0a 1)) q0h (pF q0i 0 (muN q0h 3)) q0n q0s q0r) (pF (zf4 q08 (pF q0e 0 (muN q08 1)) q09 (pF q0g 0 (muN q09 1)) q0a (pF q0f 0 (muN q0a 1)) q0h (pF q0i 0 (muN q0h 3)) q0n q0s q0r) 0 (muN (zc4 q08 (pF q0e 0 (muN q08 1)) q09 (pF q0g 0 (muN q09 1)) q0a (pF q0f 0 (muN q0a 1)) q0h (pF q0i 0 (muN q0h 3)) q0n q0s q0r) 1)) (zc7 q08 (pF q0e 0 (muN q08 1)) q09 (pF q0g 0 (muN q09 1)) q0a (pF q0f 0 (muN q0a 1)) q0h (pF q0i 0 (muN q0h 3)) q0n q0s q0r) (pF (zf6 q08 (pF q0e 0 (muN q08 1)) q09 (pF q0g 0 (muN q09 1)) q0a (pF q0f 0 (muN q0a 1)) q0h (pF q0i 0 (muN q0h 3)) q0n q0s q0r) 0 (muN (zc7 q08 (pF q0e 0 (muN q08 1)) q09 (pF q0g 0 (muN q09 1)) q0a (pF q0f 0 (muN q0a 1)) q0h (pF q0i 0 (muN q0h 3)) q0n q0s q0r) 1)) (zcf q08 (pF q0e 0 (muN q08 1)) q09 (pF q0g 0 (muN q09 1)) q0a (pF q0f 0 (muN q0a 1)) q0h (pF q0i 0 (muN q0h 3)) q0n q0s q0r) (pF (zf8 q08 (pF q0e 0 (muN q08 1)) q09 (pF q0g 0 (muN q09 1)) q0a (pF q0f 0 (muN q0a 1)) q0h (pF q0i 0 (muN q0h 3)) q0n q0s q0r) 0 (muN (zcf q08 (pF q0e 0 (muN q08 1)) q09 (pF q0g 0 (muN q09 1)) q0a (pF q0f 0 (muN q0a 1)) q0h (pF q0i 0 (muN q0h 3)) q0n q0s q0r) 1)) (z6b q08 (pF q0e 0 (muN q08 1)) q09 (pF q0g 0 (muN q09 1)) q0a (pF q0f 0 (muN q0a 1)) q0h (pF q0i 0 (muN q0h 3)) q0n q0s q0r) (pF (z9g by_ (Int.ofNat (z6b q08 (pF q0e 0 (muN q08 1)) q09 (pF q0g 0 (muN q09 1)) q0a (pF q0f 0 (muN q0a 1)) q0h (pF q0i 0 (muN q0h 3)) q0n q0s q0r)) (z6b q08 (pF q0e 0 (muN q08 1)) q09 (pF q0g 0 (muN q09 1)) q0a (pF q0f 0 (muN q0a 1)) q0h (pF q0i 0 (muN q0h 3)) q0n q0s q0r) 0 (ze1 q08 (pF q0e 0 (muN q08 1)) q09 (pF q0g 0 (muN q09 1)) q0a (pF q0f 0 (muN q0a 1)) q0h (pF q0i 0 (muN q0h 3)) q0n q0s q0r)) 0 (muN (z6b q08 (pF q0e 0 (muN q08 1)) q09 (pF q0g 0 (muN q09 1)) q0a (pF q0f 0 (muN q0a 1)) q0h (pF q0i 0 (muN q0h 3)) q0n q0s q0r) 3)) q0n q0s q0r) (br (bnot (zl9 (zc4 q08 (pF q0e 0 (muN q08 1)) q09 (pF q0g 0 (muN q09 1)) q0a (pF q0f 0 (muN q0a 1)) q0h (pF q0i 0 (muN q0h 3)) q0n q0s q0r) (pF (zf4 q08 (pF q0e 0 (muN q08 1)) q09 (pF q0g 0 (muN q09 1)) q0a (pF q0f 0 (muN q0a 1)) q0h (pF q0i 0 (muN q0h 3)) q0n q0s q0r) 0 (muN (zc4 q08 (pF q0e 0 (muN q08 1)) q09 (pF q0g 0 (muN q09 1)) q0a (pF q0f 0 (muN q0a 1)) q0h (pF q0i 0 (muN q0h 3)) q0n q0s q0r) 1)) (zc7 q08 (pF q0e 0 (muN q08 1)) q09 (pF q0g 0 (muN q09 1)) q0a (pF q0f 0 (muN q0a 1)) q0h (pF q0i 0 (muN q0h 3)) q0n q0s q0r) (pF (zf6 q08 (pF q0e 0 (muN q08 1)) q09 (pF q0g 0 (muN q09 1)) q0a (pF q0f 0 (muN q0a 1)) q0h (pF q0i 0 (muN q0h 3)) q0n q0s q0r) 0 (muN (zc7 q08 (pF q0e 0 (muN q08 1)) q09 (pF q0g 0 (muN q09 1)) q0a (pF q0f 0 (muN q0a 1)) q0h (pF q0i 0 (muN q0h 3)) q0n q0s q0r) 1)) (zcf q08 (pF q0e 0 (muN q08 1)) q09 (pF q0g 0 (muN q09 1)) q0a (pF q0f 0 (muN q0a 1)) q0h (pF q0i 0 (muN q0h 3)) q0n q0s q0r) (pF (zf8 q08 (pF q0e 0 (muN q08 1)) q09 (pF q0g 0 (muN q09 1)) q0a (pF q0f 0 (muN q0a 1)) q0h (pF q0i 0 (muN q0h 3)) q0n q0s q0r) 0 (muN (zcf q08 (pF q0e 0 (muN q08 1)) q09 (pF q0g 0 (muN q09 1)) q0a (pF q0f 0 (muN q0a 1)) q0h (pF q0i 0 (muN q0h 3)) q0n q0s q0r) 1)) (z6b q08 (pF q0e 0 (muN q08 1)) q09 (pF q0g 0 (muN q09 1)) q0a (pF q0f 0 (muN q0a 1)) q0h (pF q0i 0 (muN q0h 3)) q0n q0s q0r) (pF (z9g by_ (Int.ofNat (z6b q08 (pF q0e 0 (muN q08 1)) q09 (pF q0g 0 (muN q09 1)) q0a (pF q0f 0 (muN q0a 1)) q0h (pF q0i 0 (muN q0h 3)) q0n q0s q0r)) (z6b q08 (pF q0e 0 (muN q08 1)) q09 (pF q0g 0 (muN q09 1)) q0a (pF q0f 0 (muN q0a 1)) q0h (pF q0i 0 (muN q0h 3)) q0n q0s q0r) 0 (ze1 q08 (pF q0e 0 (muN q08 1)) q09 (pF q0g 0 (muN q09 1)) q0a (pF q0f 0 (muN q0a 1)) q0h (pF q0i 0 (muN q0h 3)) q0n q0s q0r)) 0 (muN (z6b q08 (pF q0e 0 (muN q08 1)) q09 (pF q0g 0 (muN q09 1)) q0a (pF q0f 0 (muN q0a 1)) q0h (pF q0i 0 (muN q0h 3)) q0n q0s q0r) 3)) q0n q0s q0r)) (k_ 0 0 0 0 0 0 0 Bool.false [] [] [] []) (k_ (zc4 q08 (pF q0e 0 (muN q08 1)) q09 (pF q0g 0 (muN q09 1)) q0a (pF q0f 0 (muN q0a 1)) q0h (pF q0i 0 (muN q0h 3)) q0n q0s q0r) (zc7 q08 (pF q0e 0 (muN q08 1)) q09 (pF q0g 0 (muN q09 1)) q0a (pF q0f 0 (muN q0a 1)) q0h (pF q0i 0 (muN q0h 3)) q0n q0s q0r) (zcf q08 (pF q0e 0 (muN q08 1)) q09 (pF q0g 0 (muN q09 1)) q0a (pF q0f 0 (muN q0a 1)) q0h (pF q0i 0 (muN q0h 3)) q0n q0s q0r) (z6b q08 (pF q0e 0 (muN q08 1)) q09 (pF q0g 0 (muN q09 1)) q0a (pF q0f 0 (muN q0a 1)) q0h (pF q0i 0 (muN q0h 3)) q0n q0s q0r) q0n q0s q0r Bool.true (zf4 q08 (pF q0e 0 (muN q08 1)) q09 (pF q0g 0 (muN q09 1)) q0a (pF q0f 0 (muN q0a 1)) q0h (pF q0i 0 (muN q0h 3)) q0n q0s q0r) (zf6 q08 (pF q0e 0 (muN q08 1)) q09 (pF q0g 0 (muN q09 1)) q0a (pF q0f 0 (muN q0a 1)) q0h (pF q0i 0 (muN q0h 3)) q0n q0s q0r) (zf8 q08 (pF q0e 0 (muN q08 1)) q09 (pF q0g 0 (muN q09 1)) q0a (pF q0f 0 (muN q0a 1)) q0h (pF q0i 0 (muN q0h 3)) q0n q0s q0r) (z9g by_ (Int.ofNat (z6b q08 (pF q0e 0 (muN q08 1)) q09 (pF q0g 0 (muN q09 1)) q0a (pF q0f 0 (muN q0a 1)) q0h (pF q0i 0 (muN q0h 3)) q0n q0s q0r)) (z6b q08 (pF q0e 0 (muN q08 1)) q09 (pF q0g 0 (muN q09 1)) q0a (pF q0f 0 (muN q0a 1)) q0h (pF q0i 0 (muN q0h 3)) q0n q0s q0r) 0 (ze1 q08 (pF q0e 0 (muN q08 1)) q09 (pF q0g 0 (muN q09 1)) q0a (pF q0f 0 (muN q0a 1)) q0h (pF q0i 0 (muN q0h 3)) q0n q0s q0r)))))))))
noncomputable def z5f (q08 : Nat) (q0e : List Nat) (q09 : Nat) (q0g : List Nat) (q0a : Nat) (q0f : List Nat) (q0h : Nat) (q0i : List Nat) (q0n : Int) (q0s : Nat) (q0r : Nat) (by_ : Nat) : Option (Nat × Nat × Nat × Nat × Int × Nat × Nat × Bool × (List Nat) × (List Nat) × (List Nat) × (List Nat)) := zde q08 q0e q09 q0g q0a q0f q0h q0i q0n q0s q0r by_ (fun c0_ c1_ c2_ c3_ c4_ c5_ c6_ c7_ c8_ c9_ c10_ c11_ => some (c0_, c1_, c2_, c3_, c4_, c5_, c6_, c7_, c8_, c9_, c10_, c11_))
theorem zpk {R R' : Type} (o : Option R → Option R') (h0 : o none = none) (q08 : Nat) (q0e : List Nat) (q09 : Nat) (q0g : List Nat) (q0a : Nat) (q0f : List Nat) (q0h : Nat) (q0i : List Nat) (q0n : Int) (q0s : Nat) (q0r : Nat) (by_ : Nat) (k_ : Nat → Nat → Nat → Nat → Int → Nat → Nat → Bool → (List Nat) → (List Nat) → (List Nat) → (List Nat) → Option R) : zde q08 q0e q09 q0g q0a q0f q0h q0i q0n q0s q0r by_ (fun c0_ c1_ c2_ c3_ c4_ c5_ c6_ c7_ c8_ c9_ c10_ c11_ => o (k_ c0_ c1_ c2_ c3_ c4_ c5_ c6_ c7_ c8_ c9_ c10_ c11_)) = o (zde q08 q0e q09 q0g q0a q0f q0h q0i q0n q0s q0r by_ k_) := by
  unfold zde
  repeat (first | refine grd_out h0 ?_ | refine br_out ?_ ?_ | rfl | exact h0.symm)
noncomputable def zjq (q08 : Nat) (q0e : List Nat) (q09 : Nat) (q0g : List Nat) (q0a : Nat) (q0f : List Nat) (q0h : Nat) (q0i : List Nat) (q0n : Int) (q0s : Nat) (q0r : Nat) (by_ : Nat) : Bool := (z5f q08 q0e q09 q0g q0a q0f q0h q0i q0n q0s q0r by_).isSome
noncomputable def zgy (q08 : Nat) (q0e : List Nat) (q09 : Nat) (q0g : List Nat) (q0a : Nat) (q0f : List Nat) (q0h : Nat) (q0i : List Nat) (q0n : Int) (q0s : Nat) (q0r : Nat) (by_ : Nat) : Nat := ((z5f q08 q0e q09 q0g q0a q0f q0h q0i q0n q0s q0r by_).getD default).1
noncomputable def zhr (q08 : Nat) (q0e : List Nat) (q09 : Nat) (q0g : List Nat) (q0a : Nat) (q0f : List Nat) (q0h : Nat) (q0i : List Nat) (q0n : Int) (q0s : Nat) (q0r : Nat) (by_ : Nat) : Nat := ((z5f q08 q0e q09 q0g q0a q0f q0h q0i q0n q0s q0r by_).getD default).2.1
noncomputable def zgv (q08 : Nat) (q0e : List Nat) (q09 : Nat) (q0g : List Nat) (q0a : Nat) (q0f : List Nat) (q0h : Nat) (q0i : List Nat) (q0n : Int) (q0s : Nat) (q0r : Nat) (by_ : Nat) : Nat := ((z5f q08 q0e q09 q0g q0a q0f q0h q0i q0n q0s q0r by_).getD default).2.2.1
noncomputable def zi6 (q08 : Nat) (q0e : List Nat) (q09 : Nat) (q0g : List Nat) (q0a : Nat) (q0f : List Nat) (q0h : Nat) (q0i : List Nat) (q0n : Int) (q0s : Nat) (q0r : Nat) (by_ : Nat) : Nat := ((z5f q08 q0e q09 q0g q0a q0f q0h q0i q0n q0s q0r by_).getD default).2.2.2.1
noncomputable def zht (q08 : Nat) (q0e : List Nat) (q09 : Nat) (q0g : List Nat) (q0a : Nat) (q0f : List Nat) (q0h : Nat) (q0i : List Nat) (q0n : Int) (q0s : Nat) (q0r : Nat) (by_ : Nat) : Int := ((z5f q08 q0e q09 q0g q0a q0f q0h q0i q0n q0s q0r by_).getD default).2.2.2.2.1
noncomputable def zi7 (q08 : Nat) (q0e : List Nat) (q09 : Nat) (q0g : List Nat) (q0a : Nat) (q0f : List Nat) (q0h : Nat) (q0i : List Nat) (q0n : Int) (q0s : Nat) (q0r : Nat) (by_ : Nat) : Nat := ((z5f q08 q0e q09 q0g q0a q0f q0h q0i q0n q0s q0r by_).getD default).2.2.2.2.2.1
noncomputable def zi2 (q08 : Nat) (q0e : List Nat) (q09 : Nat) (q0g : List Nat) (q0a : Nat) (q0f : List Nat) (q0h : Nat) (q0i : List Nat) (q0n : Int) (q0s : Nat) (q0r : Nat) (by_ : Nat) : Nat := ((z5f q08 q0e q09 q0g q0a q0f q0h q0i q0n q0s q0r by_).getD default).2.2.2.2.2.2.1
noncomputable def zhs (q08 : Nat) (q0e : List Nat) (q09 : Nat) (q0g : List Nat) (q0a : Nat) (q0f : List Nat) (q0h : Nat) (q0i : List Nat) (q0n : Int) (q0s : Nat) (q0r : Nat) (by_ : Nat) : Bool := ((z5f q08 q0e q09 q0g q0a q0f q0h q0i q0n q0s q0r by_).getD default).2.2.2.2.2.2.2.1
noncomputable def zid (q08 : Nat) (q0e : List Nat) (q09 : Nat) (q0g : List Nat) (q0a : Nat) (q0f : List Nat) (q0h : Nat) (q0i : List Nat) (q0n : Int) (q0s : Nat) (q0r : Nat) (by_ : Nat) : List Nat := ((z5f q08 q0e q09 q0g q0a q0f q0h q0i q0n q0s q0r by_).getD default).2.2.2.2.2.2.2.2.1
noncomputable def zhp (q08 : Nat) (q0e : List Nat) (q09 : Nat) (q0g : List Nat) (q0a : Nat) (q0f : List Nat) (q0h : Nat) (q0i : List Nat) (q0n : Int) (q0s : Nat) (q0r : Nat) (by_ : Nat) : List Nat := ((z5f q08 q0e q09 q0g q0a q0f q0h q0i q0n q0s q0r by_).getD default).2.2.2.2.2.2.2.2.2.1
noncomputable def zft (q08 : Nat) (q0e : List Nat) (q09 : Nat) (q0g : List Nat) (q0a : Nat) (q0f : List Nat) (q0h : Nat) (q0i : List Nat) (q0n : Int) (q0s : Nat) (q0r : Nat) (by_ : Nat) : List Nat := ((z5f q08 q0e q09 q0g q0a q0f q0h q0i q0n q0s q0r by_).getD default).2.2.2.2.2.2.2.2.2.2.1
noncomputable def zg0 (q08 : Nat) (q0e : List Nat) (q09 : Nat) (q0g : List Nat) (q0a : Nat) (q0f : List Nat) (q0h : Nat) (q0i : List Nat) (q0n : Int) (q0s : Nat) (q0r : Nat) (by_ : Nat) : List Nat := ((z5f q08 q0e q09 q0g q0a q0f q0h q0i q0n q0s q0r by_).getD default).2.2.2.2.2.2.2.2.2.2.2
theorem zrh {q08 : Nat} {q0e : List Nat} {q09 : Nat} {q0g : List Nat} {q0a : Nat} {q0f : List Nat} {q0h : Nat} {q0i : List Nat} {q0n : Int} {q0s : Nat} {q0r : Nat} {by_ : Nat} {r : Nat × Nat × Nat × Nat × Int × Nat × Nat × Bool × (List Nat) × (List Nat) × (List Nat) × (List Nat)} (h : z5f q08 q0e q09 q0g q0a q0f q0h q0i q0n q0s q0r by_ = some r) : zjq q08 q0e q09 q0g q0a q0f q0h q0i q0n q0s q0r by_ = true ∧ zgy q08 q0e q09 q0g q0a q0f q0h q0i q0n q0s q0r by_ = r.1 ∧ zhr q08 q0e q09 q0g q0a q0f q0h q0i q0n q0s q0r by_ = r.2.1 ∧ zgv q08 q0e q09 q0g q0a q0f q0h q0i q0n q0s q0r by_ = r.2.2.1 ∧ zi6 q08 q0e q09 q0g q0a q0f q0h q0i q0n q0s q0r by_ = r.2.2.2.1 ∧ zht q08 q0e q09 q0g q0a q0f q0h q0i q0n q0s q0r by_ = r.2.2.2.2.1 ∧ zi7 q08 q0e q09 q0g q0a q0f q0h q0i q0n q0s q0r by_ = r.2.2.2.2.2.1 ∧ zi2 q08 q0e q09 q0g q0a q0f q0h q0i q0n q0s q0r by_ = r.2.2.2.2.2.2.1 ∧ zhs q08 q0e q09 q0g q0a q0f q0h q0i q0n q0s q0r by_ = r.2.2.2.2.2.2.2.1 ∧ zid q08 q0e q09 q0g q0a q0f q0h q0i q0n q0s q0r by_ = r.2.2.2.2.2.2.2.2.1 ∧ zhp q08 q0e q09 q0g q0a q0f q0h q0i q0n q0s q0r by_ = r.2.2.2.2.2.2.2.2.2.1 ∧ zft q08 q0e q09 q0g q0a q0f q0h q0i q0n q0s q0r by_ = r.2.2.2.2.2.2.2.2.2.2.1 ∧ zg0 q08 q0e q09 q0g q0a q0f q0h q0i q0n q0s q0r by_ = r.2.2.2.2.2.2.2.2.2.2.2 := by
  unfold zjq zgy zhr zgv zi6 zht zi7 zi2 zhs zid zhp zft zg0
  rw [h]
  exact ⟨rfl, rfl, rfl, rfl, rfl, rfl, rfl, rfl, rfl, rfl, rfl, rfl, rfl⟩
noncomputable def z7x {R : Type} (q36 : Nat) (t44 : Int) (b3 : List Nat) (q0y : Nat) (t4 : Nat) (t45 : Int) (kn_ : Nat → Int → Option R) (k0_ : Unit → Option R) (k1_ : Nat → Int → Bool → Option R) : Option R := (br (ltI t45 t44) (grd (okIx t45 q36) (br (fcmp BinOp.gtr FloatKind.f32 (gF b3 (ixO 0 t45 3)) t4) (br (bnot (fcmp BinOp.lss FloatKind.f32 (gF b3 (ixO 0 t45 3)) q0y)) (k0_ ()) (grd (ze7 1 (pF [(gF b3 (Nat.succ (ixO 0 t45 3)))] 0 (muN 1 1))) (br (bnot (zdm 1 (pF [(gF b3 (Nat.succ (ixO 0 t45 3)))] 0 (muN 1 1)))) (k0_ ()) (grd (za0 (gF b3 (Nat.succ (Nat.succ (ixO 0 t45 3))))) (br (bnot (z9i (gF b3 (Nat.succ (Nat.succ (ixO 0 t45 3)))))) (k0_ ()) (kn_ (gF b3 (ixO 0 t45 3)) (addI IntKind.i64 t45 1))))))) (br (bnot Bool.false) (k0_ ()) (grd (ze7 1 (pF [(gF b3 (Nat.succ (ixO 0 t45 3)))] 0 (muN 1 1))) (br (bnot (zdm 1 (pF [(gF b3 (Nat.succ (ixO 0 t45 3)))] 0 (muN 1 1)))) (k0_ ()) (grd (za0 (gF b3 (Nat.succ (Nat.succ (ixO 0 t45 3))))) (br (bnot (z9i (gF b3 (Nat.succ (Nat.succ (ixO 0 t45 3)))))) (k0_ ()) (kn_ (gF b3 (ixO 0 t45 3)) (addI IntKind.i64 t45 1))))))))) (k1_ t4 t45 (ltI t45 t44)))
theorem zo5 {R R' : Type} (o : Option R → Option R') (h0 : o none = none) (q36 : Nat) (t44 : Int) (b3 : List Nat) (q0y : Nat) (t4 : Nat) (t45 : Int) (kn_ : Nat → Int → Option R) (k0_ : Unit → Option R) (k1_ : Nat → Int → Bool → Option R) : z7x q36 t44 b3 q0y t4 t45 (fun t4' t45' => o (kn_ t4' t45')) (fun _ => o (k0_ ())) (fun c0_ c1_ c2_ => o (k1_ c0_ c1_ c2_)) = o (z7x q36 t44 b3 q0y t4 t45 kn_ k0_ k1_) := by
  unfold z7x
  repeat (first | refine grd_out h0 ?_ | refine br_out ?_ ?_ | rfl | exact h0.symm)
noncomputable def z4v (q36 : Nat) (t44 : Int) (b3 : List Nat) (q0y : Nat) : Nat → Nat → Int → Option ((Unit) ⊕ (Nat × Int × Bool))
  | 0, _, _ => none
  | n + 1, t4, t45 => z7x q36 t44 b3 q0y  t4 t45  (fun t4' t45' => z4v q36 t44 b3 q0y n t4' t45') (fun _ => some (Sum.inl ())) (fun c0_ c1_ c2_ => some (Sum.inr (c0_, c1_, c2_)))
theorem zlf (q36 : Nat) (t44 : Int) (b3 : List Nat) (q0y : Nat) (n : Nat) (t4 : Nat) (t45 : Int) : z4v q36 t44 b3 q0y (n + 1) t4 t45 = z7x q36 t44 b3 q0y  t4 t45  (fun t4' t45' => z4v q36 t44 b3 q0y n t4' t45') (fun _ => some (Sum.inl ())) (fun c0_ c1_ c2_ => some (Sum.inr (c0_, c1_, c2_))) := rfl
noncomputable def z9h (q36 : Nat) (t44 : Int) (b3 : List Nat) (q0y : Nat) (t4 : Nat) (t45 : Int) : Bool := (z4v q36 t44 b3 q0y big t4 t45).isSome
noncomputable def z98 (q36 : Nat) (t44 : Int) (b3 : List Nat) (q0y : Nat) (t4 : Nat) (t45 : Int) : Bool := oL (z4v q36 t44 b3 q0y big t4 t45)
noncomputable def zg9 (q36 : Nat) (t44 : Int) (b3 : List Nat) (q0y : Nat) (t4 : Nat) (t45 : Int) : Nat := ((tR (z4v q36 t44 b3 q0y big t4 t45)).getD default).1
noncomputable def zgo (q36 : Nat) (t44 : Int) (b3 : List Nat) (q0y : Nat) (t4 : Nat) (t45 : Int) : Int := ((tR (z4v q36 t44 b3 q0y big t4 t45)).getD default).2.1
noncomputable def zgk (q36 : Nat) (t44 : Int) (b3 : List Nat) (q0y : Nat) (t4 : Nat) (t45 : Int) : Bool := ((tR (z4v q36 t44 b3 q0y big t4 t45)).getD default).2.2
theorem zot {q36 : Nat} {t44 : Int} {b3 : List Nat} {q0y : Nat} {t4 : Nat} {t45 : Int} {m : Nat} {r : Unit} (hm : m = big) (h : z4v q36 t44 b3 q0y m t4 t45 = some (Sum.inl r)) : z9h q36 t44 b3 q0y t4 t45 = true ∧ z98 q36 t44 b3 q0y t4 t45 = true := by
  subst hm
  unfold z9h z98
  rw [h]
  exact ⟨rfl, rfl⟩
theorem zoq {q36 : Nat} {t44 : Int} {b3 : List Nat} {q0y : Nat} {t4 : Nat} {t45 : Int} {m : Nat} {r : Nat × Int × Bool} (hm : m = big) (h : z4v q36 t44 b3 q0y m t4 t45 = some (Sum.inr r)) : z9h q36 t44 b3 q0y t4 t45 = true ∧ z98 q36 t44 b3 q0y t4 t45 = false ∧ zg9 q36 t44 b3 q0y t4 t45 = r.1 ∧ zgo q36 t44 b3 q0y t4 t45 = r.2.1 ∧ zgk q36 t44 b3 q0y t4 t45 = r.2.2 := by
  subst hm
  unfold z9h z98 zg9 zgo zgk
  rw [h]
  exact ⟨rfl, rfl, rfl, rfl, rfl⟩
noncomputable def zdg {R : Type} (q00 : Nat) (q03 : List Nat) (q01 : Nat) (q04 : List Nat) (q02 : Nat) (q05 : List Nat) (q06 : Nat) (q07 : List Nat) (q0b : Int) (q0c : Nat) (q0d : Nat) (k_ : Bool → Option R) : Option R := (grd (zfy q00 (pF q03 0 (muN q00 1)) q01 (pF q04 0 (muN q01 1)) q02 (pF q05 0 (muN q02 1))) (br (bnot (zeo q00 (pF q03 0 (muN q00 1)) q01 (pF q04 0 (muN q01 1)) q02 (pF q05 0 (muN q02 1)))) (k_ Bool.false) (grd (zmf q0b 1 6) (br (bnot (zm3 q0b 1 6)) (k_ Bool.false) (br (ltI (Int.ofNat q06) 2) (k_ Bool.false) (br (ltI 12 (Int.ofNat q06)) (k_ Bool.false) (grd (zkb q0c) (br (bnot (zh5 q0c)) (k_ Bool.false) (grd (za0 q0d) (br (bnot (z9i q0d)) (k_ Bool.false) (grd (z9h q06 (Int.ofNat q06) q07 q0d q0c 0) (br (z98 q06 (Int.ofNat q06) q07 q0d q0c 0) (k_ Bool.false) (k_ Bool.true)))))))))))))
noncomputable def zdf (q00 : Nat) (q03 : List Nat) (q01 : Nat) (q04 : List Nat) (q02 : Nat) (q05 : List Nat) (q06 : Nat) (q07 : List Nat) (q0b : Int) (q0c : Nat) (q0d : Nat) : Option (Bool) := zdg q00 q03 q01 q04 q02 q05 q06 q07 q0b q0c q0d (fun c0_ => some c0_)
theorem zpn {R R' : Type} (o : Option R → Option R') (h0 : o none = none) (q00 : Nat) (q03 : List Nat) (q01 : Nat) (q04 : List Nat) (q02 : Nat) (q05 : List Nat) (q06 : Nat) (q07 : List Nat) (q0b : Int) (q0c : Nat) (q0d : Nat) (k_ : Bool → Option R) : zdg q00 q03 q01 q04 q02 q05 q06 q07 q0b q0c q0d (fun c0_ => o (k_ c0_)) = o (zdg q00 q03 q01 q04 q02 q05 q06 q07 q0b q0c q0d k_) := by
  unfold zdg
  repeat (first | refine grd_out h0 ?_ | refine br_out ?_ ?_ | rfl | exact h0.symm)
noncomputable def zek (q00 : Nat) (q03 : List Nat) (q01 : Nat) (q04 : List Nat) (q02 : Nat) (q05 : List Nat) (q06 : Nat) (q07 : List Nat) (q0b : Int) (q0c : Nat) (q0d : Nat) : Bool := (zdf q00 q03 q01 q04 q02 q05 q06 q07 q0b q0c q0d).isSome
noncomputable def ze6 (q00 : Nat) (q03 : List Nat) (q01 : Nat) (q04 : List Nat) (q02 : Nat) (q05 : List Nat) (q06 : Nat) (q07 : List Nat) (q0b : Int) (q0c : Nat) (q0d : Nat) : Bool := ((zdf q00 q03 q01 q04 q02 q05 q06 q07 q0b q0c q0d).getD default)
theorem zmy {q00 : Nat} {q03 : List Nat} {q01 : Nat} {q04 : List Nat} {q02 : Nat} {q05 : List Nat} {q06 : Nat} {q07 : List Nat} {q0b : Int} {q0c : Nat} {q0d : Nat} {r : Bool} (h : zdf q00 q03 q01 q04 q02 q05 q06 q07 q0b q0c q0d = some r) : zek q00 q03 q01 q04 q02 q05 q06 q07 q0b q0c q0d = true ∧ ze6 q00 q03 q01 q04 q02 q05 q06 q07 q0b q0c q0d = r := by
  unfold zek ze6
  rw [h]
  exact ⟨rfl, rfl⟩
noncomputable def z7v {R : Type} (by_ : Nat) (t16 : Int) (q0x : Nat) (t17 : Int) (b9 : List Nat) (kn_ : Int → (List Nat) → Option R) (k0_ : Int → Bool → (List Nat) → Option R) : Option R := (br (ltI t17 t16) (grd (okIx t17 q0x) (grd (okIx t17 q0x) (kn_ (addI IntKind.i64 t17 1) (sF b9 (Nat.succ (Nat.succ (ixO 0 t17 3))) (fop BinOp.add FloatKind.f32 (gF b9 (Nat.succ (Nat.succ (ixO 0 t17 3)))) by_))))) (k0_ t17 (ltI t17 t16) b9))
theorem znw {R R' : Type} (o : Option R → Option R') (h0 : o none = none) (by_ : Nat) (t16 : Int) (q0x : Nat) (t17 : Int) (b9 : List Nat) (kn_ : Int → (List Nat) → Option R) (k0_ : Int → Bool → (List Nat) → Option R) : z7v by_ t16 q0x t17 b9 (fun t17' b9' => o (kn_ t17' b9')) (fun c0_ c1_ c2_ => o (k0_ c0_ c1_ c2_)) = o (z7v by_ t16 q0x t17 b9 kn_ k0_) := by
  unfold z7v
  repeat (first | refine grd_out h0 ?_ | refine br_out ?_ ?_ | rfl | exact h0.symm)
noncomputable def z54 (by_ : Nat) (t16 : Int) (q0x : Nat) : Nat → Int → (List Nat) → Option ((Int × Bool × (List Nat)))
  | 0, _, _ => none
  | n + 1, t17, b9 => z7v by_ t16 q0x  t17 b9  (fun t17' b9' => z54 by_ t16 q0x n t17' b9') (fun c0_ c1_ c2_ => some (c0_, c1_, c2_))
theorem zlh (by_ : Nat) (t16 : Int) (q0x : Nat) (n : Nat) (t17 : Int) (b9 : List Nat) : z54 by_ t16 q0x (n + 1) t17 b9 = z7v by_ t16 q0x  t17 b9  (fun t17' b9' => z54 by_ t16 q0x n t17' b9') (fun c0_ c1_ c2_ => some (c0_, c1_, c2_)) := rfl
noncomputable def zew (by_ : Nat) (t16 : Int) (q0x : Nat) (t17 : Int) (b9 : List Nat) : Bool := (z54 by_ t16 q0x big t17 b9).isSome
noncomputable def zgi (by_ : Nat) (t16 : Int) (q0x : Nat) (t17 : Int) (b9 : List Nat) : Int := ((z54 by_ t16 q0x big t17 b9).getD default).1
noncomputable def zga (by_ : Nat) (t16 : Int) (q0x : Nat) (t17 : Int) (b9 : List Nat) : Bool := ((z54 by_ t16 q0x big t17 b9).getD default).2.1
noncomputable def z9d (by_ : Nat) (t16 : Int) (q0x : Nat) (t17 : Int) (b9 : List Nat) : List Nat := ((z54 by_ t16 q0x big t17 b9).getD default).2.2
theorem zov {by_ : Nat} {t16 : Int} {q0x : Nat} {t17 : Int} {b9 : List Nat} {m : Nat} {r : Int × Bool × (List Nat)} (hm : m = big) (h : z54 by_ t16 q0x m t17 b9 = some r) : zew by_ t16 q0x t17 b9 = true ∧ zgi by_ t16 q0x t17 b9 = r.1 ∧ zga by_ t16 q0x t17 b9 = r.2.1 ∧ z9d by_ t16 q0x t17 b9 = r.2.2 := by
  subst hm
  unfold zew zgi zga z9d
  rw [h]
  exact ⟨rfl, rfl, rfl, rfl⟩
noncomputable def zdi {R : Type} (q08 : Nat) (q0e : List Nat) (q09 : Nat) (q0g : List Nat) (q0a : Nat) (q0f : List Nat) (q0h : Nat) (q0i : List Nat) (q0n : Int) (q0s : Nat) (q0r : Nat) (by_ : Nat) (k_ : Nat → Nat → Nat → Nat → Int → Nat → Nat → Bool → (List Nat) → (List Nat) → (List Nat) → (List Nat) → Option R) : Option R := (grd (zek q08 (pF q0e 0 (muN q08 1)) q09 (pF q0g 0 (muN q09 1)) q0a (pF q0f 0 (muN q0a 1)) q0h (pF q0i 0 (muN q0h 3)) q0n q0s q0r) (br (bnot (ze6 q08 (pF q0e 0 (muN q08 1)) q09 (pF q0g 0 (muN q09 1)) q0a (pF q0f 0 (muN q0a 1)) q0h (pF q0i 0 (muN q0h 3)) q0n q0s q0r)) (k_ 0 0 0 0 0 0 0 Bool.false [] [] [] []) (grd (zl2 q08 (pF q0e 0 (muN q08 1)) q09 (pF q0g 0 (muN q09 1)) q0a (pF q0f 0 (muN q0a 1)) q0h (pF q0i 0 (muN q0h 3)) q0n q0s q0r) (grd (zew by_ (Int.ofNat (z5m q08 (pF q0e 0 (muN q08 1)) q09 (pF q0g 0 (muN q09 1)) q0a (pF q0f 0 (muN q0a 1)) q0h (pF q0i 0 (muN q0h 3)) q0n q0s q0r)) (z5m q08 (pF q0e 0 (muN q08 1)) q09 (pF q0g 0 (muN q09 1)) q0a (pF q0f 0 (muN q0a 1)) q0h (pF q0i 0 (muN q0h 3)) q0n q0s q0r) 0 (zan q08 (pF q0e 0 (muN q08 1)) q09 (pF q0g 0 (muN q09 1)) q0a (pF q0f 0 (muN q0a 1)) q0h (pF q0i 0 (muN q0h 3)) q0n q0s q0r)) (grd (zek (z9x q08 (pF q0e 0 (muN q08 1)) q09 (pF q0g 0 (muN q09 1)) q0a (pF q0f 0 (muN q0a 1)) q0h (pF q0i 0 (muN q0h 3)) q0n q0s q0r) (pF (zd5 q08 (pF q0e 0 (muN q08 1)) q09 (pF q0g 0 (muN q09 1)) q0a (pF q0f 0 (muN q0a 1)) q0h (pF q0i 0 (muN q0h 3)) q0n q0s q0r) 0 (muN (z9x q08 (pF q0e 0 (muN q08 1)) q09 (pF q0g 0 (muN q09 1)) q0a (pF q0f 0 (muN q0a 1)) q0h (pF q0i 0 (muN q0h 3)) q0n q0s q0r) 1)) (z9w q08 (pF q0e 0 (muN q08 1)) q09 (pF q0g 0 (muN q09 1)) q0a (pF q0f 0 (muN q0a 1)) q0h (pF q0i 0 (muN q0h 3)) q0n q0s q0r) (pF (zda q08 (pF q0e 0 (muN q08 1)) q09 (pF q0g 0 (muN q09 1)) q0a (pF q0f 0 (muN q0a 1)) q0h (pF q0i 0 (muN q0h 3)) q0n q0s q0r) 0 (muN (z9w q08 (pF q0e 0 (muN q08 1)) q09 (pF q0g 0 (muN q09 1)) q0a (pF q0f 0 (muN q0a 1)) q0h (pF q0i 0 (muN q0h 3)) q0n q0s q0r) 1)) (z9v q08 (pF q0e 0 (muN q08 1)) q09 (pF q0g 0 (muN q09 1)) q0a (pF q0f 0 (muN q0a 1)) q0h (pF q0i 0 (muN q0h 3)) q0n q0s q0r) (pF (zd2 q08 (pF q0e 0 (muN q08 1)) q09 (pF q0g 0 (muN q09 1)) q0a (pF q0f 0 (muN q0a 1)) q0h (pF q0i 0 (muN q0h 3)) q0n q0s q0r) 0 (muN (z9v q08 (pF q0e 0 (muN q08 1)) q09 (pF q0g 0 (muN q09 1)) q0a (pF q0f 0 (muN q0a 1)) q0h (pF q0i 0 (muN q0h 3)) q0n q0s q0r) 1)) (z5m q08 (pF q0e 0 (muN q08 1)) q09 (pF q0g 0 (muN q09 1)) q0a (pF q0f 0 (muN q0a 1)) q0h (pF q0i 0 (muN q0h 3)) q0n q0s q0r) (pF (z9d by_ (Int.ofNat (z5m q08 (pF q0e 0 (muN q08 1)) q09 (pF q0g 0 (muN q09 1)) q0a (pF q0f 0 (muN q0a 1)) q0h (pF q0i 0 (muN q0h 3)) q0n q0s q0r)) (z5m q08 (pF q0e 0 (muN q08 1)) q09 (pF q0g 0 (muN q09 1)) q0a (pF q0f 0 (muN q0a 1)) q0h (pF q0i 0 (muN q0h 3)) q0n q0s q0r) 0 (zan q08 (pF q0e 0 (muN q08 1)) q09 (pF q0g 0 (muN q09 1)) q0a (pF q0f 0 (muN q0a 1)) q0h (pF q0i 0 (muN q0h 3)) q0n q0s q0r)) 0 (muN (z5m q08 (pF q0e 0 (muN q08 1)) q09 (pF q0g 0 (muN q09 1)) q0a (pF q0f 0 (muN q0a 1)) q0h (pF q0i 0 (muN q0h 3)) q0n q0s q0r) 3)) q0n q0s q0r) (br (bnot (ze6 (z9x q08 (pF q0e 0 (muN q08 1)) q09 (pF q0g 0 (muN q09 1)) q0a (pF q0f 0 (muN q0a 1)) q0h (pF q0i 0 (muN q0h 3)) q0n q0s q0r) (pF (zd5 q08 (pF q0e 0 (muN q08 1)) q09 (pF q0g 0 (muN q09 1)) q0a (pF q0f 0 (muN q0a 1)) q0h (pF q0i 0 (muN q0h 3)) q0n q0s q0r) 0 (muN (z9x q08 (pF q0e 0 (muN q08 1)) q09 (pF q0g 0 (muN q09 1)) q0a (pF q0f 0 (muN q0a 1)) q0h (pF q0i 0 (muN q0h 3)) q0n q0s q0r) 1)) (z9w q08 (pF q0e 0 (muN q08 1)) q09 (pF q0g 0 (muN q09 1)) q0a (pF q0f 0 (muN q0a 1)) q0h (pF q0i 0 (muN q0h 3)) q0n q0s q0r) (pF (zda q08 (pF q0e 0 (muN q08 1)) q09 (pF q0g 0 (muN q09 1)) q0a (pF q0f 0 (muN q0a 1)) q0h (pF q0i 0 (muN q0h 3)) q0n q0s q0r) 0 (muN (z9w q08 (pF q0e 0 (muN q08 1)) q09 (pF q0g 0 (muN q09 1)) q0a (pF q0f 0 (muN q0a 1)) q0h (pF q0i 0 (muN q0h 3)) q0n q0s q0r) 1)) (z9v q08 (pF q0e 0 (muN q08 1)) q09 (pF q0g 0 (muN q09 1)) q0a (pF q0f 0 (muN q0a 1)) q0h (pF q0i 0 (muN q0h 3)) q0n q0s q0r) (pF (zd2 q08 (pF q0e 0 (muN q08 1)) q09 (pF q0g 0 (muN q09 1)) q0a (pF q0f 0 (muN q0a 1)) q0h (pF q0i 0 (muN q0h 3)) q0n q0s q0r) 0 (muN (z9v q08 (pF q0e 0 (muN q08 1)) q09 (pF q0g 0 (muN q09 1)) q0a (pF q0f 0 (muN q0a 1)) q0h (pF q0i 0 (muN q0h 3)) q0n q0s q0r) 1)) (z5m q08 (pF q0e 0 (muN q08 1)) q09 (pF q0g 0 (muN q09 1)) q0a (pF q0f 0 (muN q0a 1)) q0h (pF q0i 0 (muN q0h 3)) q0n q0s q0r) (pF (z9d by_ (Int.ofNat (z5m q08 (pF q0e 0 (muN q08 1)) q09 (pF q0g 0 (muN q09 1)) q0a (pF q0f 0 (muN q0a 1)) q0h (pF q0i 0 (muN q0h 3)) q0n q0s q0r)) (z5m q08 (pF q0e 0 (muN q08 1)) q09 (pF q0g 0 (muN q09 1)) q0a (pF q0f 0 (muN q0a 1)) q0h (pF q0i 0 (muN q0h 3)) q0n q0s q0r) 0 (zan q08 (pF q0e 0 (muN q08 1)) q09 (pF q0g 0 (muN q09 1)) q0a (pF q0f 0 (muN q0a 1)) q0h (pF q0i 0 (muN q0h 3)) q0n q0s q0r)) 0 (muN (z5m q08 (pF q0e 0 (muN q08 1)) q09 (pF q0g 0 (muN q09 1)) q0a (pF q0f 0 (muN q0a 1)) q0h (pF q0i 0 (muN q0h 3)) q0n q0s q0r) 3)) q0n q0s q0r)) (k_ 0 0 0 0 0 0 0 Bool.false [] [] [] []) (k_ (z9x q08 (pF q0e 0 (muN q08 1)) q09 (pF q0g 0 (muN q09 1)) q0a (pF q0f 0 (muN q0a 1)) q0h (pF q0i 0 (muN q0h 3)) q0n q0s q0r) (z9w q08 (pF q0e 0 (muN q08 1)) q09 (pF q0g 0 (muN q09 1)) q0a (pF q0f 0 (muN q0a 1)) q0h (pF q0i 0 (muN q0h 3)) q0n q0s q0r) (z9v q08 (pF q0e 0 (muN q08 1)) q09 (pF q0g 0 (muN q09 1)) q0a (pF q0f 0 (muN q0a 1)) q0h (pF q0i 0 (muN q0h 3)) q0n q0s q0r) (z5m q08 (pF q0e 0 (muN q08 1)) q09 (pF q0g 0 (muN q09 1)) q0a (pF q0f 0 (muN q0a 1)) q0h (pF q0i 0 (muN q0h 3)) q0n q0s q0r) q0n q0s q0r Bool.true (zd5 q08 (pF q0e 0 (muN q08 1)) q09 (pF q0g 0 (muN q09 1)) q0a (pF q0f 0 (muN q0a 1)) q0h (pF q0i 0 (muN q0h 3)) q0n q0s q0r) (zda q08 (pF q0e 0 (muN q08 1)) q09 (pF q0g 0 (muN q09 1)) q0a (pF q0f 0 (muN q0a 1)) q0h (pF q0i 0 (muN q0h 3)) q0n q0s q0r) (zd2 q08 (pF q0e 0 (muN q08 1)) q09 (pF q0g 0 (muN q09 1)) q0a (pF q0f 0 (muN q0a 1)) q0h (pF q0i 0 (muN q0h 3)) q0n q0s q0r) (z9d by_ (Int.ofNat (z5m q08 (pF q0e 0 (muN q08 1)) q09 (pF q0g 0 (muN q09 1)) q0a (pF q0f 0 (muN q0a 1)) q0h (pF q0i 0 (muN q0h 3)) q0n q0s q0r)) (z5m q08 (pF q0e 0 (muN q08 1)) q09 (pF q0g 0 (muN q09 1)) q0a (pF q0f 0 (muN q0a 1)) q0h (pF q0i 0 (muN q0h 3)) q0n q0s q0r) 0 (zan q08 (pF q0e 0 (muN q08 1)) q09 (pF q0g 0 (muN q09 1)) q0a (pF q0f 0 (muN q0a 1)) q0h (pF q0i 0 (muN q0h 3)) q0n q0s q0r)))))))))
noncomputable def z5g (q08 : Nat) (q0e : List Nat) (q09 : Nat) (q0g : List Nat) (q0a : Nat) (q0f : List Nat) (q0h : Nat) (q0i : List Nat) (q0n : Int) (q0s : Nat) (q0r : Nat) (by_ : Nat) : Option (Nat × Nat × Nat × Nat × Int × Nat × Nat × Bool × (List Nat) × (List Nat) × (List Nat) × (List Nat)) := zdi q08 q0e q09 q0g q0a q0f q0h q0i q0n q0s q0r by_ (fun c0_ c1_ c2_ c3_ c4_ c5_ c6_ c7_ c8_ c9_ c10_ c11_ => some (c0_, c1_, c2_, c3_, c4_, c5_, c6_, c7_, c8_, c9_, c10_, c11_))
theorem zpj {R R' : Type} (o : Option R → Option R') (h0 : o none = none) (q08 : Nat) (q0e : List Nat) (q09 : Nat) (q0g : List Nat) (q0a : Nat) (q0f : List Nat) (q0h : Nat) (q0i : List Nat) (q0n : Int) (q0s : Nat) (q0r : Nat) (by_ : Nat) (k_ : Nat → Nat → Nat → Nat → Int → Nat → Nat → Bool → (List Nat) → (List Nat) → (List Nat) → (List Nat) → Option R) : zdi q08 q0e q09 q0g q0a q0f q0h q0i q0n q0s q0r by_ (fun c0_ c1_ c2_ c3_ c4_ c5_ c6_ c7_ c8_ c9_ c10_ c11_ => o (k_ c0_ c1_ c2_ c3_ c4_ c5_ c6_ c7_ c8_ c9_ c10_ c11_)) = o (zdi q08 q0e q09 q0g q0a q0f q0h q0i q0n q0s q0r by_ k_) := by
  unfold zdi
  repeat (first | refine grd_out h0 ?_ | refine br_out ?_ ?_ | rfl | exact h0.symm)
noncomputable def zjm (q08 : Nat) (q0e : List Nat) (q09 : Nat) (q0g : List Nat) (q0a : Nat) (q0f : List Nat) (q0h : Nat) (q0i : List Nat) (q0n : Int) (q0s : Nat) (q0r : Nat) (by_ : Nat) : Bool := (z5g q08 q0e q09 q0g q0a q0f q0h q0i q0n q0s q0r by_).isSome
noncomputable def zi9 (q08 : Nat) (q0e : List Nat) (q09 : Nat) (q0g : List Nat) (q0a : Nat) (q0f : List Nat) (q0h : Nat) (q0i : List Nat) (q0n : Int) (q0s : Nat) (q0r : Nat) (by_ : Nat) : Nat := ((z5g q08 q0e q09 q0g q0a q0f q0h q0i q0n q0s q0r by_).getD default).1
noncomputable def zhx (q08 : Nat) (q0e : List Nat) (q09 : Nat) (q0g : List Nat) (q0a : Nat) (q0f : List Nat) (q0h : Nat) (q0i : List Nat) (q0n : Int) (q0s : Nat) (q0r : Nat) (by_ : Nat) : Nat := ((z5g q08 q0e q09 q0g q0a q0f q0h q0i q0n q0s q0r by_).getD default).2.1
noncomputable def zh4 (q08 : Nat) (q0e : List Nat) (q09 : Nat) (q0g : List Nat) (q0a : Nat) (q0f : List Nat) (q0h : Nat) (q0i : List Nat) (q0n : Int) (q0s : Nat) (q0r : Nat) (by_ : Nat) : Nat := ((z5g q08 q0e q09 q0g q0a q0f q0h q0i q0n q0s q0r by_).getD default).2.2.1
noncomputable def zhn (q08 : Nat) (q0e : List Nat) (q09 : Nat) (q0g : List Nat) (q0a : Nat) (q0f : List Nat) (q0h : Nat) (q0i : List Nat) (q0n : Int) (q0s : Nat) (q0r : Nat) (by_ : Nat) : Nat := ((z5g q08 q0e q09 q0g q0a q0f q0h q0i q0n q0s q0r by_).getD default).2.2.2.1
noncomputable def zi3 (q08 : Nat) (q0e : List Nat) (q09 : Nat) (q0g : List Nat) (q0a : Nat) (q0f : List Nat) (q0h : Nat) (q0i : List Nat) (q0n : Int) (q0s : Nat) (q0r : Nat) (by_ : Nat) : Int := ((z5g q08 q0e q09 q0g q0a q0f q0h q0i q0n q0s q0r by_).getD default).2.2.2.2.1
noncomputable def zi0 (q08 : Nat) (q0e : List Nat) (q09 : Nat) (q0g : List Nat) (q0a : Nat) (q0f : List Nat) (q0h : Nat) (q0i : List Nat) (q0n : Int) (q0s : Nat) (q0r : Nat) (by_ : Nat) : Nat := ((z5g q08 q0e q09 q0g q0a q0f q0h q0i q0n q0s q0r by_).getD default).2.2.2.2.2.1
noncomputable def zhy (q08 : Nat) (q0e : List Nat) (q09 : Nat) (q0g : List Nat) (q0a : Nat) (q0f : List Nat) (q0h : Nat) (q0i : List Nat) (q0n : Int) (q0s : Nat) (q0r : Nat) (by_ : Nat) : Nat := ((z5g q08 q0e q09 q0g q0a q0f q0h q0i q0n q0s q0r by_).getD default).2.2.2.2.2.2.1
noncomputable def zhh (q08 : Nat) (q0e : List Nat) (q09 : Nat) (q0g : List Nat) (q0a : Nat) (q0f : List Nat) (q0h : Nat) (q0i : List Nat) (q0n : Int) (q0s : Nat) (q0r : Nat) (by_ : Nat) : Bool := ((z5g q08 q0e q09 q0g q0a q0f q0h q0i q0n q0s q0r by_).getD default).2.2.2.2.2.2.2.1
noncomputable def zhj (q08 : Nat) (q0e : List Nat) (q09 : Nat) (q0g : List Nat) (q0a : Nat) (q0f : List Nat) (q0h : Nat) (q0i : List Nat) (q0n : Int) (q0s : Nat) (q0r : Nat) (by_ : Nat) : List Nat := ((z5g q08 q0e q09 q0g q0a q0f q0h q0i q0n q0s q0r by_).getD default).2.2.2.2.2.2.2.2.1
noncomputable def zi4 (q08 : Nat) (q0e : List Nat) (q09 : Nat) (q0g : List Nat) (q0a : Nat) (q0f : List Nat) (q0h : Nat) (q0i : List Nat) (q0n : Int) (q0s : Nat) (q0r : Nat) (by_ : Nat) : List Nat := ((z5g q08 q0e q09 q0g q0a q0f q0h q0i q0n q0s q0r by_).getD default).2.2.2.2.2.2.2.2.2.1
noncomputable def zfr (q08 : Nat) (q0e : List Nat) (q09 : Nat) (q0g : List Nat) (q0a : Nat) (q0f : List Nat) (q0h : Nat) (q0i : List Nat) (q0n : Int) (q0s : Nat) (q0r : Nat) (by_ : Nat) : List Nat := ((z5g q08 q0e q09 q0g q0a q0f q0h q0i q0n q0s q0r by_).getD default).2.2.2.2.2.2.2.2.2.2.1
noncomputable def zfs (q08 : Nat) (q0e : List Nat) (q09 : Nat) (q0g : List Nat) (q0a : Nat) (q0f : List Nat) (q0h : Nat) (q0i : List Nat) (q0n : Int) (q0s : Nat) (q0r : Nat) (by_ : Nat) : List Nat := ((z5g q08 q0e q09 q0g q0a q0f q0h q0i q0n q0s q0r by_).getD default).2.2.2.2.2.2.2.2.2.2.2
theorem zr9 {q08 : Nat} {q0e : List Nat} {q09 : Nat} {q0g : List Nat} {q0a : Nat} {q0f : List Nat} {q0h : Nat} {q0i : List Nat} {q0n : Int} {q0s : Nat} {q0r : Nat} {by_ : Nat} {r : Nat × Nat × Nat × Nat × Int × Nat × Nat × Bool × (List Nat) × (List Nat) × (List Nat) × (List Nat)} (h : z5g q08 q0e q09 q0g q0a q0f q0h q0i q0n q0s q0r by_ = some r) : zjm q08 q0e q09 q0g q0a q0f q0h q0i q0n q0s q0r by_ = true ∧ zi9 q08 q0e q09 q0g q0a q0f q0h q0i q0n q0s q0r by_ = r.1 ∧ zhx q08 q0e q09 q0g q0a q0f q0h q0i q0n q0s q0r by_ = r.2.1 ∧ zh4 q08 q0e q09 q0g q0a q0f q0h q0i q0n q0s q0r by_ = r.2.2.1 ∧ zhn q08 q0e q09 q0g q0a q0f q0h q0i q0n q0s q0r by_ = r.2.2.2.1 ∧ zi3 q08 q0e q09 q0g q0a q0f q0h q0i q0n q0s q0r by_ = r.2.2.2.2.1 ∧ zi0 q08 q0e q09 q0g q0a q0f q0h q0i q0n q0s q0r by_ = r.2.2.2.2.2.1 ∧ zhy q08 q0e q09 q0g q0a q0f q0h q0i q0n q0s q0r by_ = r.2.2.2.2.2.2.1 ∧ zhh q08 q0e q09 q0g q0a q0f q0h q0i q0n q0s q0r by_ = r.2.2.2.2.2.2.2.1 ∧ zhj q08 q0e q09 q0g q0a q0f q0h q0i q0n q0s q0r by_ = r.2.2.2.2.2.2.2.2.1 ∧ zi4 q08 q0e q09 q0g q0a q0f q0h q0i q0n q0s q0r by_ = r.2.2.2.2.2.2.2.2.2.1 ∧ zfr q08 q0e q09 q0g q0a q0f q0h q0i q0n q0s q0r by_ = r.2.2.2.2.2.2.2.2.2.2.1 ∧ zfs q08 q0e q09 q0g q0a q0f q0h q0i q0n q0s q0r by_ = r.2.2.2.2.2.2.2.2.2.2.2 := by
  unfold zjm zi9 zhx zh4 zhn zi3 zi0 zhy zhh zhj zi4 zfr zfs
  rw [h]
  exact ⟨rfl, rfl, rfl, rfl, rfl, rfl, rfl, rfl, rfl, rfl, rfl, rfl, rfl⟩
noncomputable def z55 {R : Type} (an : Nat) (k : Int) (i : Int) (b11 : List Nat) (kn_ : Int → Int → (List Nat) → Option R) (k0_ : Int → Int → Bool → (List Nat) → Option R) : Option R := (br (ltI i (Int.ofNat an)) (grd (okIx i an) (kn_ (addI IntKind.i64 k 1) (addI IntKind.i64 i 1) (sF b11 (ixO 0 i 1) (fOI FloatKind.f32 k)))) (k0_ k i (ltI i (Int.ofNat an)) b11))
theorem zh7 {R R' : Type} (o : Option R → Option R') (h0 : o none = none) (an : Nat) (k : Int) (i : Int) (b11 : List Nat) (kn_ : Int → Int → (List Nat) → Option R) (k0_ : Int → Int → Bool → (List Nat) → Option R) : z55 an k i b11 (fun k' i' b11' => o (kn_ k' i' b11')) (fun c0_ c1_ c2_ c3_ => o (k0_ c0_ c1_ c2_ c3_)) = o (z55 an k i b11 kn_ k0_) := by
  unfold z55
  repeat (first | refine grd_out h0 ?_ | refine br_out ?_ ?_ | rfl | exact h0.symm)
noncomputable def z3b (an : Nat) : Nat → Int → Int → (List Nat) → Option ((Int × Int × Bool × (List Nat)))
  | 0, _, _, _ => none
  | n + 1, k, i, b11 => z55 an  k i b11  (fun k' i' b11' => z3b an n k' i' b11') (fun c0_ c1_ c2_ c3_ => some (c0_, c1_, c2_, c3_))
theorem zgq (an : Nat) (n : Nat) (k : Int) (i : Int) (b11 : List Nat) : z3b an (n + 1) k i b11 = z55 an  k i b11  (fun k' i' b11' => z3b an n k' i' b11') (fun c0_ c1_ c2_ c3_ => some (c0_, c1_, c2_, c3_)) := rfl
noncomputable def z7j (an : Nat) (k : Int) (i : Int) (b11 : List Nat) : Bool := (z3b an big k i b11).isSome
noncomputable def z6s (an : Nat) (k : Int) (i : Int) (b11 : List Nat) : Int := ((z3b an big k i b11).getD default).1
noncomputable def z90 (an : Nat) (k : Int) (i : Int) (b11 : List Nat) : Int := ((z3b an big k i b11).getD default).2.1
noncomputable def z94 (an : Nat) (k : Int) (i : Int) (b11 : List Nat) : Bool := ((z3b an big k i b11).getD default).2.2.1
noncomputable def z92 (an : Nat) (k : Int) (i : Int) (b11 : List Nat) : List Nat := ((z3b an big k i b11).getD default).2.2.2
theorem ziq {an : Nat} {k : Int} {i : Int} {b11 : List Nat} {m : Nat} {r : Int × Int × Bool × (List Nat)} (hm : m = big) (h : z3b an m k i b11 = some r) : z7j an k i b11 = true ∧ z6s an k i b11 = r.1 ∧ z90 an k i b11 = r.2.1 ∧ z94 an k i b11 = r.2.2.1 ∧ z92 an k i b11 = r.2.2.2 := by
  subst hm
  unfold z7j z6s z90 z94 z92
  rw [h]
  exact ⟨rfl, rfl, rfl, rfl, rfl⟩
noncomputable def z52 {R : Type} (an : Nat) (k : Int) (i : Int) (b12 : List Nat) (kn_ : Int → Int → (List Nat) → Option R) (k0_ : Int → Int → Bool → (List Nat) → Option R) : Option R := (br (ltI i (Int.ofNat an)) (grd (okIx i an) (kn_ (addI IntKind.i64 k 1) (addI IntKind.i64 i 1) (sF b12 (ixO 0 i 1) (fOI FloatKind.f32 k)))) (k0_ k i (ltI i (Int.ofNat an)) b12))
theorem zg2 {R R' : Type} (o : Option R → Option R') (h0 : o none = none) (an : Nat) (k : Int) (i : Int) (b12 : List Nat) (kn_ : Int → Int → (List Nat) → Option R) (k0_ : Int → Int → Bool → (List Nat) → Option R) : z52 an k i b12 (fun k' i' b12' => o (kn_ k' i' b12')) (fun c0_ c1_ c2_ c3_ => o (k0_ c0_ c1_ c2_ c3_)) = o (z52 an k i b12 kn_ k0_) := by
  unfold z52
  repeat (first | refine grd_out h0 ?_ | refine br_out ?_ ?_ | rfl | exact h0.symm)
noncomputable def z2x (an : Nat) : Nat → Int → Int → (List Nat) → Option ((Int × Int × Bool × (List Nat)))
  | 0, _, _, _ => none
  | n + 1, k, i, b12 => z52 an  k i b12  (fun k' i' b12' => z2x an n k' i' b12') (fun c0_ c1_ c2_ c3_ => some (c0_, c1_, c2_, c3_))
theorem zfm (an : Nat) (n : Nat) (k : Int) (i : Int) (b12 : List Nat) : z2x an (n + 1) k i b12 = z52 an  k i b12  (fun k' i' b12' => z2x an n k' i' b12') (fun c0_ c1_ c2_ c3_ => some (c0_, c1_, c2_, c3_)) := rfl
noncomputable def z77 (an : Nat) (k : Int) (i : Int) (b12 : List Nat) : Bool := (z2x an big k i b12).isSome
noncomputable def z6f (an : Nat) (k : Int) (i : Int) (b12 : List Nat) : Int := ((z2x an big k i b12).getD default).1
noncomputable def z8j (an : Nat) (k : Int) (i : Int) (b12 : List Nat) : Int := ((z2x an big k i b12).getD default).2.1
noncomputable def z8a (an : Nat) (k : Int) (i : Int) (b12 : List Nat) : Bool := ((z2x an big k i b12).getD default).2.2.1
noncomputable def z8i (an : Nat) (k : Int) (i : Int) (b12 : List Nat) : List Nat := ((z2x an big k i b12).getD default).2.2.2
theorem zgz {an : Nat} {k : Int} {i : Int} {b12 : List Nat} {m : Nat} {r : Int × Int × Bool × (List Nat)} (hm : m = big) (h : z2x an m k i b12 = some r) : z77 an k i b12 = true ∧ z6f an k i b12 = r.1 ∧ z8j an k i b12 = r.2.1 ∧ z8a an k i b12 = r.2.2.1 ∧ z8i an k i b12 = r.2.2.2 := by
  subst hm
  unfold z77 z6f z8j z8a z8i
  rw [h]
  exact ⟨rfl, rfl, rfl, rfl, rfl⟩
noncomputable def z4z {R : Type} (an : Nat) (k : Int) (i : Int) (b13 : List Nat) (kn_ : Int → Int → (List Nat) → Option R) (k0_ : Int → Int → Bool → (List Nat) → Option R) : Option R := (br (ltI i (Int.ofNat an)) (grd (okIx i an) (kn_ (addI IntKind.i64 k 1) (addI IntKind.i64 i 1) (sF b13 (ixO 0 i 1) (fOI FloatKind.f32 k)))) (k0_ k i (ltI i (Int.ofNat an)) b13))
theorem zg5 {R R' : Type} (o : Option R → Option R') (h0 : o none = none) (an : Nat) (k : Int) (i : Int) (b13 : List Nat) (kn_ : Int → Int → (List Nat) → Option R) (k0_ : Int → Int → Bool → (List Nat) → Option R) : z4z an k i b13 (fun k' i' b13' => o (kn_ k' i' b13')) (fun c0_ c1_ c2_ c3_ => o (k0_ c0_ c1_ c2_ c3_)) = o (z4z an k i b13 kn_ k0_) := by
  unfold z4z
  repeat (first | refine grd_out h0 ?_ | refine br_out ?_ ?_ | rfl | exact h0.symm)
noncomputable def z2t (an : Nat) : Nat → Int → Int → (List Nat) → Option ((Int × Int × Bool × (List Nat)))
  | 0, _, _, _ => none
  | n + 1, k, i, b13 => z4z an  k i b13  (fun k' i' b13' => z2t an n k' i' b13') (fun c0_ c1_ c2_ c3_ => some (c0_, c1_, c2_, c3_))
theorem zfe (an : Nat) (n : Nat) (k : Int) (i : Int) (b13 : List Nat) : z2t an (n + 1) k i b13 = z4z an  k i b13  (fun k' i' b13' => z2t an n k' i' b13') (fun c0_ c1_ c2_ c3_ => some (c0_, c1_, c2_, c3_)) := rfl
noncomputable def z7b (an : Nat) (k : Int) (i : Int) (b13 : List Nat) : Bool := (z2t an big k i b13).isSome
noncomputable def z6j (an : Nat) (k : Int) (i : Int) (b13 : List Nat) : Int := ((z2t an big k i b13).getD default).1
noncomputable def z8e (an : Nat) (k : Int) (i : Int) (b13 : List Nat) : Int := ((z2t an big k i b13).getD default).2.1
noncomputable def z87 (an : Nat) (k : Int) (i : Int) (b13 : List Nat) : Bool := ((z2t an big k i b13).getD default).2.2.1
noncomputable def z8g (an : Nat) (k : Int) (i : Int) (b13 : List Nat) : List Nat := ((z2t an big k i b13).getD default).2.2.2
theorem zhw {an : Nat} {k : Int} {i : Int} {b13 : List Nat} {m : Nat} {r : Int × Int × Bool × (List Nat)} (hm : m = big) (h : z2t an m k i b13 = some r) : z7b an k i b13 = true ∧ z6j an k i b13 = r.1 ∧ z8e an k i b13 = r.2.1 ∧ z87 an k i b13 = r.2.2.1 ∧ z8g an k i b13 = r.2.2.2 := by
  subst hm
  unfold z7b z6j z8e z87 z8g
  rw [h]
  exact ⟨rfl, rfl, rfl, rfl, rfl⟩
noncomputable def z4o {R : Type} (an : Nat) (k : Int) (i : Int) (b14 : List Nat) (kn_ : Int → Int → (List Nat) → Option R) (k0_ : Int → Int → Bool → (List Nat) → Option R) : Option R := (br (ltI i (Int.ofNat an)) (grd (okIx i an) (grd (okIx i an) (grd (okIx i an) (kn_ (addI IntKind.i64 (addI IntKind.i64 (addI IntKind.i64 k 1) 1) 1) (addI IntKind.i64 i 1) (sF (sF (sF b14 (ixO 0 i 3) (fOI FloatKind.f32 k)) (Nat.succ (ixO 0 i 3)) (fOI FloatKind.f32 (addI IntKind.i64 k 1))) (Nat.succ (Nat.succ (ixO 0 i 3))) (fOI FloatKind.f32 (addI IntKind.i64 (addI IntKind.i64 k 1) 1))))))) (k0_ k i (ltI i (Int.ofNat an)) b14))
theorem zhb {R R' : Type} (o : Option R → Option R') (h0 : o none = none) (an : Nat) (k : Int) (i : Int) (b14 : List Nat) (kn_ : Int → Int → (List Nat) → Option R) (k0_ : Int → Int → Bool → (List Nat) → Option R) : z4o an k i b14 (fun k' i' b14' => o (kn_ k' i' b14')) (fun c0_ c1_ c2_ c3_ => o (k0_ c0_ c1_ c2_ c3_)) = o (z4o an k i b14 kn_ k0_) := by
  unfold z4o
  repeat (first | refine grd_out h0 ?_ | refine br_out ?_ ?_ | rfl | exact h0.symm)
noncomputable def z3c (an : Nat) : Nat → Int → Int → (List Nat) → Option ((Int × Int × Bool × (List Nat)))
  | 0, _, _, _ => none
  | n + 1, k, i, b14 => z4o an  k i b14  (fun k' i' b14' => z3c an n k' i' b14') (fun c0_ c1_ c2_ c3_ => some (c0_, c1_, c2_, c3_))
theorem zah (an : Nat) (n : Nat) (k : Int) (i : Int) (b14 : List Nat) : z3c an (n + 1) k i b14 = z4o an  k i b14  (fun k' i' b14' => z3c an n k' i' b14') (fun c0_ c1_ c2_ c3_ => some (c0_, c1_, c2_, c3_)) := rfl
noncomputable def z7i (an : Nat) (k : Int) (i : Int) (b14 : List Nat) : Bool := (z3c an big k i b14).isSome
noncomputable def z6r (an : Nat) (k : Int) (i : Int) (b14 : List Nat) : Int := ((z3c an big k i b14).getD default).1
noncomputable def z91 (an : Nat) (k : Int) (i : Int) (b14 : List Nat) : Int := ((z3c an big k i b14).getD default).2.1
noncomputable def z8x (an : Nat) (k : Int) (i : Int) (b14 : List Nat) : Bool := ((z3c an big k i b14).getD default).2.2.1
noncomputable def z8z (an : Nat) (k : Int) (i : Int) (b14 : List Nat) : List Nat := ((z3c an big k i b14).getD default).2.2.2
theorem zit {an : Nat} {k : Int} {i : Int} {b14 : List Nat} {m : Nat} {r : Int × Int × Bool × (List Nat)} (hm : m = big) (h : z3c an m k i b14 = some r) : z7i an k i b14 = true ∧ z6r an k i b14 = r.1 ∧ z91 an k i b14 = r.2.1 ∧ z8x an k i b14 = r.2.2.1 ∧ z8z an k i b14 = r.2.2.2 := by
  subst hm
  unfold z7i z6r z91 z8x z8z
  rw [h]
  exact ⟨rfl, rfl, rfl, rfl, rfl⟩
noncomputable def z51 {R : Type} (an : Nat) (k : Int) (i : Int) (b11 : List Nat) (kn_ : Int → Int → (List Nat) → Option R) (k0_ : Int → Int → Bool → (List Nat) → Option R) : Option R := (br (ltI i (Int.ofNat an)) (grd (okIx i an) (kn_ (addI IntKind.i64 k 1) (addI IntKind.i64 i 1) (sF b11 (ixO 0 i 1) (fOI FloatKind.f32 k)))) (k0_ k i (ltI i (Int.ofNat an)) b11))
theorem zg6 {R R' : Type} (o : Option R → Option R') (h0 : o none = none) (an : Nat) (k : Int) (i : Int) (b11 : List Nat) (kn_ : Int → Int → (List Nat) → Option R) (k0_ : Int → Int → Bool → (List Nat) → Option R) : z51 an k i b11 (fun k' i' b11' => o (kn_ k' i' b11')) (fun c0_ c1_ c2_ c3_ => o (k0_ c0_ c1_ c2_ c3_)) = o (z51 an k i b11 kn_ k0_) := by
  unfold z51
  repeat (first | refine grd_out h0 ?_ | refine br_out ?_ ?_ | rfl | exact h0.symm)
noncomputable def z2s (an : Nat) : Nat → Int → Int → (List Nat) → Option ((Int × Int × Bool × (List Nat)))
  | 0, _, _, _ => none
  | n + 1, k, i, b11 => z51 an  k i b11  (fun k' i' b11' => z2s an n k' i' b11') (fun c0_ c1_ c2_ c3_ => some (c0_, c1_, c2_, c3_))
theorem zfi (an : Nat) (n : Nat) (k : Int) (i : Int) (b11 : List Nat) : z2s an (n + 1) k i b11 = z51 an  k i b11  (fun k' i' b11' => z2s an n k' i' b11') (fun c0_ c1_ c2_ c3_ => some (c0_, c1_, c2_, c3_)) := rfl
noncomputable def z7a (an : Nat) (k : Int) (i : Int) (b11 : List Nat) : Bool := (z2s an big k i b11).isSome
noncomputable def z6m (an : Nat) (k : Int) (i : Int) (b11 : List Nat) : Int := ((z2s an big k i b11).getD default).1
noncomputable def z8h (an : Nat) (k : Int) (i : Int) (b11 : List Nat) : Int := ((z2s an big k i b11).getD default).2.1
noncomputable def z8b (an : Nat) (k : Int) (i : Int) (b11 : List Nat) : Bool := ((z2s an big k i b11).getD default).2.2.1
noncomputable def z6n (an : Nat) (k : Int) (i : Int) (b11 : List Nat) : List Nat := ((z2s an big k i b11).getD default).2.2.2
theorem zhz {an : Nat} {k : Int} {i : Int} {b11 : List Nat} {m : Nat} {r : Int × Int × Bool × (List Nat)} (hm : m = big) (h : z2s an m k i b11 = some r) : z7a an k i b11 = true ∧ z6m an k i b11 = r.1 ∧ z8h an k i b11 = r.2.1 ∧ z8b an k i b11 = r.2.2.1 ∧ z6n an k i b11 = r.2.2.2 := by
  subst hm
  unfold z7a z6m z8h z8b z6n
  rw [h]
  exact ⟨rfl, rfl, rfl, rfl, rfl⟩
noncomputable def z4y {R : Type} (an : Nat) (k : Int) (i : Int) (b12 : List Nat) (kn_ : Int → Int → (List Nat) → Option R) (k0_ : Int → Int → Bool → (List Nat) → Option R) : Option R := (br (ltI i (Int.ofNat an)) (grd (okIx i an) (kn_ (addI IntKind.i64 k 1) (addI IntKind.i64 i 1) (sF b12 (ixO 0 i 1) (fOI FloatKind.f32 k)))) (k0_ k i (ltI i (Int.ofNat an)) b12))
theorem zg1 {R R' : Type} (o : Option R → Option R') (h0 : o none = none) (an : Nat) (k : Int) (i : Int) (b12 : List Nat) (kn_ : Int → Int → (List Nat) → Option R) (k0_ : Int → Int → Bool → (List Nat) → Option R) : z4y an k i b12 (fun k' i' b12' => o (kn_ k' i' b12')) (fun c0_ c1_ c2_ c3_ => o (k0_ c0_ c1_ c2_ c3_)) = o (z4y an k i b12 kn_ k0_) := by
  unfold z4y
  repeat (first | refine grd_out h0 ?_ | refine br_out ?_ ?_ | rfl | exact h0.symm)
noncomputable def z2u (an : Nat) : Nat → Int → Int → (List Nat) → Option ((Int × Int × Bool × (List Nat)))
  | 0, _, _, _ => none
  | n + 1, k, i, b12 => z4y an  k i b12  (fun k' i' b12' => z2u an n k' i' b12') (fun c0_ c1_ c2_ c3_ => some (c0_, c1_, c2_, c3_))
theorem zfn (an : Nat) (n : Nat) (k : Int) (i : Int) (b12 : List Nat) : z2u an (n + 1) k i b12 = z4y an  k i b12  (fun k' i' b12' => z2u an n k' i' b12') (fun c0_ c1_ c2_ c3_ => some (c0_, c1_, c2_, c3_)) := rfl
noncomputable def z70 (an : Nat) (k : Int) (i : Int) (b12 : List Nat) : Bool := (z2u an big k i b12).isSome
noncomputable def z6l (an : Nat) (k : Int) (i : Int) (b12 : List Nat) : Int := ((z2u an big k i b12).getD default).1
noncomputable def z8f (an : Nat) (k : Int) (i : Int) (b12 : List Nat) : Int := ((z2u an big k i b12).getD default).2.1
noncomputable def z8d (an : Nat) (k : Int) (i : Int) (b12 : List Nat) : Bool := ((z2u an big k i b12).getD default).2.2.1
noncomputable def z6k (an : Nat) (k : Int) (i : Int) (b12 : List Nat) : List Nat := ((z2u an big k i b12).getD default).2.2.2
theorem zi8 {an : Nat} {k : Int} {i : Int} {b12 : List Nat} {m : Nat} {r : Int × Int × Bool × (List Nat)} (hm : m = big) (h : z2u an m k i b12 = some r) : z70 an k i b12 = true ∧ z6l an k i b12 = r.1 ∧ z8f an k i b12 = r.2.1 ∧ z8d an k i b12 = r.2.2.1 ∧ z6k an k i b12 = r.2.2.2 := by
  subst hm
  unfold z70 z6l z8f z8d z6k
  rw [h]
  exact ⟨rfl, rfl, rfl, rfl, rfl⟩
noncomputable def z4x {R : Type} (an : Nat) (k : Int) (i : Int) (b13 : List Nat) (kn_ : Int → Int → (List Nat) → Option R) (k0_ : Int → Int → Bool → (List Nat) → Option R) : Option R := (br (ltI i (Int.ofNat an)) (grd (okIx i an) (kn_ (addI IntKind.i64 k 1) (addI IntKind.i64 i 1) (sF b13 (ixO 0 i 1) (fOI FloatKind.f32 k)))) (k0_ k i (ltI i (Int.ofNat an)) b13))
theorem zg4 {R R' : Type} (o : Option R → Option R') (h0 : o none = none) (an : Nat) (k : Int) (i : Int) (b13 : List Nat) (kn_ : Int → Int → (List Nat) → Option R) (k0_ : Int → Int → Bool → (List Nat) → Option R) : z4x an k i b13 (fun k' i' b13' => o (kn_ k' i' b13')) (fun c0_ c1_ c2_ c3_ => o (k0_ c0_ c1_ c2_ c3_)) = o (z4x an k i b13 kn_ k0_) := by
  unfold z4x
  repeat (first | refine grd_out h0 ?_ | refine br_out ?_ ?_ | rfl | exact h0.symm)
noncomputable def z2w (an : Nat) : Nat → Int → Int → (List Nat) → Option ((Int × Int × Bool × (List Nat)))
  | 0, _, _, _ => none
  | n + 1, k, i, b13 => z4x an  k i b13  (fun k' i' b13' => z2w an n k' i' b13') (fun c0_ c1_ c2_ c3_ => some (c0_, c1_, c2_, c3_))
theorem zfg (an : Nat) (n : Nat) (k : Int) (i : Int) (b13 : List Nat) : z2w an (n + 1) k i b13 = z4x an  k i b13  (fun k' i' b13' => z2w an n k' i' b13') (fun c0_ c1_ c2_ c3_ => some (c0_, c1_, c2_, c3_)) := rfl
noncomputable def z74 (an : Nat) (k : Int) (i : Int) (b13 : List Nat) : Bool := (z2w an big k i b13).isSome
noncomputable def z6d (an : Nat) (k : Int) (i : Int) (b13 : List Nat) : Int := ((z2w an big k i b13).getD default).1
noncomputable def z8k (an : Nat) (k : Int) (i : Int) (b13 : List Nat) : Int := ((z2w an big k i b13).getD default).2.1
noncomputable def z8l (an : Nat) (k : Int) (i : Int) (b13 : List Nat) : Bool := ((z2w an big k i b13).getD default).2.2.1
noncomputable def z6i (an : Nat) (k : Int) (i : Int) (b13 : List Nat) : List Nat := ((z2w an big k i b13).getD default).2.2.2
theorem zhq {an : Nat} {k : Int} {i : Int} {b13 : List Nat} {m : Nat} {r : Int × Int × Bool × (List Nat)} (hm : m = big) (h : z2w an m k i b13 = some r) : z74 an k i b13 = true ∧ z6d an k i b13 = r.1 ∧ z8k an k i b13 = r.2.1 ∧ z8l an k i b13 = r.2.2.1 ∧ z6i an k i b13 = r.2.2.2 := by
  subst hm
  unfold z74 z6d z8k z8l z6i
  rw [h]
  exact ⟨rfl, rfl, rfl, rfl, rfl⟩
noncomputable def z4j {R : Type} (an : Nat) (k : Int) (i : Int) (b14 : List Nat) (kn_ : Int → Int → (List Nat) → Option R) (k0_ : Int → Int → Bool → (List Nat) → Option R) : Option R := (br (ltI i (Int.ofNat an)) (grd (okIx i an) (grd (okIx i an) (grd (okIx i an) (kn_ (addI IntKind.i64 (addI IntKind.i64 (addI IntKind.i64 k 1) 1) 1) (addI IntKind.i64 i 1) (sF (sF (sF b14 (ixO 0 i 3) (fOI FloatKind.f32 k)) (Nat.succ (ixO 0 i 3)) (fOI FloatKind.f32 (addI IntKind.i64 k 1))) (Nat.succ (Nat.succ (ixO 0 i 3))) (fOI FloatKind.f32 (addI IntKind.i64 (addI IntKind.i64 k 1) 1))))))) (k0_ k i (ltI i (Int.ofNat an)) b14))
theorem zg3 {R R' : Type} (o : Option R → Option R') (h0 : o none = none) (an : Nat) (k : Int) (i : Int) (b14 : List Nat) (kn_ : Int → Int → (List Nat) → Option R) (k0_ : Int → Int → Bool → (List Nat) → Option R) : z4j an k i b14 (fun k' i' b14' => o (kn_ k' i' b14')) (fun c0_ c1_ c2_ c3_ => o (k0_ c0_ c1_ c2_ c3_)) = o (z4j an k i b14 kn_ k0_) := by
  unfold z4j
  repeat (first | refine grd_out h0 ?_ | refine br_out ?_ ?_ | rfl | exact h0.symm)
noncomputable def z2v (an : Nat) : Nat → Int → Int → (List Nat) → Option ((Int × Int × Bool × (List Nat)))
  | 0, _, _, _ => none
  | n + 1, k, i, b14 => z4j an  k i b14  (fun k' i' b14' => z2v an n k' i' b14') (fun c0_ c1_ c2_ c3_ => some (c0_, c1_, c2_, c3_))
theorem zab (an : Nat) (n : Nat) (k : Int) (i : Int) (b14 : List Nat) : z2v an (n + 1) k i b14 = z4j an  k i b14  (fun k' i' b14' => z2v an n k' i' b14') (fun c0_ c1_ c2_ c3_ => some (c0_, c1_, c2_, c3_)) := rfl
noncomputable def z75 (an : Nat) (k : Int) (i : Int) (b14 : List Nat) : Bool := (z2v an big k i b14).isSome
noncomputable def z6e (an : Nat) (k : Int) (i : Int) (b14 : List Nat) : Int := ((z2v an big k i b14).getD default).1
noncomputable def z86 (an : Nat) (k : Int) (i : Int) (b14 : List Nat) : Int := ((z2v an big k i b14).getD default).2.1
noncomputable def z8c (an : Nat) (k : Int) (i : Int) (b14 : List Nat) : Bool := ((z2v an big k i b14).getD default).2.2.1
noncomputable def z6h (an : Nat) (k : Int) (i : Int) (b14 : List Nat) : List Nat := ((z2v an big k i b14).getD default).2.2.2
theorem zia {an : Nat} {k : Int} {i : Int} {b14 : List Nat} {m : Nat} {r : Int × Int × Bool × (List Nat)} (hm : m = big) (h : z2v an m k i b14 = some r) : z75 an k i b14 = true ∧ z6e an k i b14 = r.1 ∧ z86 an k i b14 = r.2.1 ∧ z8c an k i b14 = r.2.2.1 ∧ z6h an k i b14 = r.2.2.2 := by
  subst hm
  unfold z75 z6e z86 z8c z6h
  rw [h]
  exact ⟨rfl, rfl, rfl, rfl, rfl⟩
noncomputable def za5 (q00 : Nat) (q03 : List Nat) (q01 : Nat) (q04 : List Nat) (q02 : Nat) (q05 : List Nat) (q06 : Nat) (q07 : List Nat) (q0b : Int) (q0c : Nat) (q0d : Nat) (x1 : Nat) := (zhu q00 (pF q03 0 (muN q00 1)) q01 (pF q04 0 (muN q01 1)) q02 (pF q05 0 (muN q02 1)) q06 (pF q07 0 (muN q06 3)) q0b q0c q0d)
noncomputable def z0m (q00 : Nat) (q03 : List Nat) (q01 : Nat) (q04 : List Nat) (q02 : Nat) (q05 : List Nat) (q06 : Nat) (q07 : List Nat) (q0b : Int) (q0c : Nat) (q0d : Nat) (x1 : Nat) := (zi5 q00 (pF q03 0 (muN q00 1)) q01 (pF q04 0 (muN q01 1)) q02 (pF q05 0 (muN q02 1)) q06 (pF q07 0 (muN q06 3)) q0b q0c q0d)
noncomputable def z0o (q00 : Nat) (q03 : List Nat) (q01 : Nat) (q04 : List Nat) (q02 : Nat) (q05 : List Nat) (q06 : Nat) (q07 : List Nat) (q0b : Int) (q0c : Nat) (q0d : Nat) (x1 : Nat) := (zh3 q00 (pF q03 0 (muN q00 1)) q01 (pF q04 0 (muN q01 1)) q02 (pF q05 0 (muN q02 1)) q06 (pF q07 0 (muN q06 3)) q0b q0c q0d)
noncomputable def za1 (q00 : Nat) (q03 : List Nat) (q01 : Nat) (q04 : List Nat) (q02 : Nat) (q05 : List Nat) (q06 : Nat) (q07 : List Nat) (q0b : Int) (q0c : Nat) (q0d : Nat) (x1 : Nat) := (zh6 q00 (pF q03 0 (muN q00 1)) q01 (pF q04 0 (muN q01 1)) q02 (pF q05 0 (muN q02 1)) q06 (pF q07 0 (muN q06 3)) q0b q0c q0d)
noncomputable def z95 (q00 : Nat) (q03 : List Nat) (q01 : Nat) (q04 : List Nat) (q02 : Nat) (q05 : List Nat) (q06 : Nat) (q07 : List Nat) (q0b : Int) (q0c : Nat) (q0d : Nat) (x1 : Nat) := (zjz q00 (pF q03 0 (muN q00 1)) q01 (pF q04 0 (muN q01 1)) q02 (pF q05 0 (muN q02 1)) q06 (pF q07 0 (muN q06 3)) q0b q0c q0d)
noncomputable def z0p (q00 : Nat) (q03 : List Nat) (q01 : Nat) (q04 : List Nat) (q02 : Nat) (q05 : List Nat) (q06 : Nat) (q07 : List Nat) (q0b : Int) (q0c : Nat) (q0d : Nat) (x1 : Nat) := (zho q00 (pF q03 0 (muN q00 1)) q01 (pF q04 0 (muN q01 1)) q02 (pF q05 0 (muN q02 1)) q06 (pF q07 0 (muN q06 3)) q0b q0c q0d)
noncomputable def z0n (q00 : Nat) (q03 : List Nat) (q01 : Nat) (q04 : List Nat) (q02 : Nat) (q05 : List Nat) (q06 : Nat) (q07 : List Nat) (q0b : Int) (q0c : Nat) (q0d : Nat) (x1 : Nat) := (zh8 q00 (pF q03 0 (muN q00 1)) q01 (pF q04 0 (muN q01 1)) q02 (pF q05 0 (muN q02 1)) q06 (pF q07 0 (muN q06 3)) q0b q0c q0d)
noncomputable def za2 (q00 : Nat) (q03 : List Nat) (q01 : Nat) (q04 : List Nat) (q02 : Nat) (q05 : List Nat) (q06 : Nat) (q07 : List Nat) (q0b : Int) (q0c : Nat) (q0d : Nat) (x1 : Nat) := (zh0 q00 (pF q03 0 (muN q00 1)) q01 (pF q04 0 (muN q01 1)) q02 (pF q05 0 (muN q02 1)) q06 (pF q07 0 (muN q06 3)) q0b q0c q0d)
noncomputable def za4 (q00 : Nat) (q03 : List Nat) (q01 : Nat) (q04 : List Nat) (q02 : Nat) (q05 : List Nat) (q06 : Nat) (q07 : List Nat) (q0b : Int) (q0c : Nat) (q0d : Nat) (x1 : Nat) := (zhm q00 (pF q03 0 (muN q00 1)) q01 (pF q04 0 (muN q01 1)) q02 (pF q05 0 (muN q02 1)) q06 (pF q07 0 (muN q06 3)) q0b q0c q0d)
noncomputable def zcl (q00 : Nat) (q03 : List Nat) (q01 : Nat) (q04 : List Nat) (q02 : Nat) (q05 : List Nat) (q06 : Nat) (q07 : List Nat) (q0b : Int) (q0c : Nat) (q0d : Nat) (x1 : Nat) := (z6s (z0o q00 q03 q01 q04 q02 q05 q06 q07 q0b q0c q0d x1) 1 0 (za5 q00 q03 q01 q04 q02 q05 q06 q07 q0b q0c q0d x1))
noncomputable def z0x (q00 : Nat) (q03 : List Nat) (q01 : Nat) (q04 : List Nat) (q02 : Nat) (q05 : List Nat) (q06 : Nat) (q07 : List Nat) (q0b : Int) (q0c : Nat) (q0d : Nat) (x1 : Nat) := (pF (za1 q00 q03 q01 q04 q02 q05 q06 q07 q0b q0c q0d x1) 0 (muN (z0n q00 q03 q01 q04 q02 q05 q06 q07 q0b q0c q0d x1) 1))
noncomputable def z0w (q00 : Nat) (q03 : List Nat) (q01 : Nat) (q04 : List Nat) (q02 : Nat) (q05 : List Nat) (q06 : Nat) (q07 : List Nat) (q0b : Int) (q0c : Nat) (q0d : Nat) (x1 : Nat) := (pF (za2 q00 q03 q01 q04 q02 q05 q06 q07 q0b q0c q0d x1) 0 (muN (z0p q00 q03 q01 q04 q02 q05 q06 q07 q0b q0c q0d x1) 3))
noncomputable def z0t (q00 : Nat) (q03 : List Nat) (q01 : Nat) (q04 : List Nat) (q02 : Nat) (q05 : List Nat) (q06 : Nat) (q07 : List Nat) (q0b : Int) (q0c : Nat) (q0d : Nat) (x1 : Nat) := (pF (za4 q00 q03 q01 q04 q02 q05 q06 q07 q0b q0c q0d x1) 0 (muN (z0m q00 q03 q01 q04 q02 q05 q06 q07 q0b q0c q0d x1) 1))
noncomputable def z0u (q00 : Nat) (q03 : List Nat) (q01 : Nat) (q04 : List Nat) (q02 : Nat) (q05 : List Nat) (q06 : Nat) (q07 : List Nat) (q0b : Int) (q0c : Nat) (q0d : Nat) (x1 : Nat) := (pF (za5 q00 q03 q01 q04 q02 q05 q06 q07 q0b q0c q0d x1) 0 (muN (z0o q00 q03 q01 q04 q02 q05 q06 q07 q0b q0c q0d x1) 1))
noncomputable def zbo (q00 : Nat) (q03 : List Nat) (q01 : Nat) (q04 : List Nat) (q02 : Nat) (q05 : List Nat) (q06 : Nat) (q07 : List Nat) (q0b : Int) (q0c : Nat) (q0d : Nat) (x1 : Nat) := (z6f (z0n q00 q03 q01 q04 q02 q05 q06 q07 q0b q0c q0d x1) (zcl q00 q03 q01 q04 q02 q05 q06 q07 q0b q0c q0d x1) 0 (za1 q00 q03 q01 q04 q02 q05 q06 q07 q0b q0c q0d x1))
noncomputable def zbq (q00 : Nat) (q03 : List Nat) (q01 : Nat) (q04 : List Nat) (q02 : Nat) (q05 : List Nat) (q06 : Nat) (q07 : List Nat) (q0b : Int) (q0c : Nat) (q0d : Nat) (x1 : Nat) := (z6j (z0m q00 q03 q01 q04 q02 q05 q06 q07 q0b q0c q0d x1) (zbo q00 q03 q01 q04 q02 q05 q06 q07 q0b q0c q0d x1) 0 (za4 q00 q03 q01 q04 q02 q05 q06 q07 q0b q0c q0d x1))
noncomputable def z9m (q00 : Nat) (q03 : List Nat) (q01 : Nat) (q04 : List Nat) (q02 : Nat) (q05 : List Nat) (q06 : Nat) (q07 : List Nat) (q0b : Int) (q0c : Nat) (q0d : Nat) (x1 : Nat) := (zi6 (z0o q00 q03 q01 q04 q02 q05 q06 q07 q0b q0c q0d x1) (z0u q00 q03 q01 q04 q02 q05 q06 q07 q0b q0c q0d x1) (z0n q00 q03 q01 q04 q02 q05 q06 q07 q0b q0c q0d x1) (z0x q00 q03 q01 q04 q02 q05 q06 q07 q0b q0c q0d x1) (z0m q00 q03 q01 q04 q02 q05 q06 q07 q0b q0c q0d x1) (z0t q00 q03 q01 q04 q02 q05 q06 q07 q0b q0c q0d x1) (z0p q00 q03 q01 q04 q02 q05 q06 q07 q0b q0c q0d x1) (z0w q00 q03 q01 q04 q02 q05 q06 q07 q0b q0c q0d x1) q0b q0c q0d x1)
noncomputable def zbw (q00 : Nat) (q03 : List Nat) (q01 : Nat) (q04 : List Nat) (q02 : Nat) (q05 : List Nat) (q06 : Nat) (q07 : List Nat) (q0b : Int) (q0c : Nat) (q0d : Nat) (x1 : Nat) := (zjm (z0o q00 q03 q01 q04 q02 q05 q06 q07 q0b q0c q0d x1) (z0u q00 q03 q01 q04 q02 q05 q06 q07 q0b q0c q0d x1) (z0n q00 q03 q01 q04 q02 q05 q06 q07 q0b q0c q0d x1) (z0x q00 q03 q01 q04 q02 q05 q06 q07 q0b q0c q0d x1) (z0m q00 q03 q01 q04 q02 q05 q06 q07 q0b q0c q0d x1) (z0t q00 q03 q01 q04 q02 q05 q06 q07 q0b q0c q0d x1) (z0p q00 q03 q01 q04 q02 q05 q06 q07 q0b q0c q0d x1) (z0w q00 q03 q01 q04 q02 q05 q06 q07 q0b q0c q0d x1) q0b q0c q0d x1)
noncomputable def z5x (q00 : Nat) (q03 : List Nat) (q01 : Nat) (q04 : List Nat) (q02 : Nat) (q05 : List Nat) (q06 : Nat) (q07 : List Nat) (q0b : Int) (q0c : Nat) (q0d : Nat) (x1 : Nat) := (zh4 (z0o q00 q03 q01 q04 q02 q05 q06 q07 q0b q0c q0d x1) (z0u q00 q03 q01 q04 q02 q05 q06 q07 q0b q0c q0d x1) (z0n q00 q03 q01 q04 q02 q05 q06 q07 q0b q0c q0d x1) (z0x q00 q03 q01 q04 q02 q05 q06 q07 q0b q0c q0d x1) (z0m q00 q03 q01 q04 q02 q05 q06 q07 q0b q0c q0d x1) (z0t q00 q03 q01 q04 q02 q05 q06 q07 q0b q0c q0d x1) (z0p q00 q03 q01 q04 q02 q05 q06 q07 q0b q0c q0d x1) (z0w q00 q03 q01 q04 q02 q05 q06 q07 q0b q0c q0d x1) q0b q0c q0d x1)
noncomputable def z8q (q00 : Nat) (q03 : List Nat) (q01 : Nat) (q04 : List Nat) (q02 : Nat) (q05 : List Nat) (q06 : Nat) (q07 : List Nat) (q0b : Int) (q0c : Nat) (q0d : Nat) (x1 : Nat) := (zhy (z0o q00 q03 q01 q04 q02 q05 q06 q07 q0b q0c q0d x1) (z0u q00 q03 q01 q04 q02 q05 q06 q07 q0b q0c q0d x1) (z0n q00 q03 q01 q04 q02 q05 q06 q07 q0b q0c q0d x1) (z0x q00 q03 q01 q04 q02 q05 q06 q07 q0b q0c q0d x1) (z0m q00 q03 q01 q04 q02 q05 q06 q07 q0b q0c q0d x1) (z0t q00 q03 q01 q04 q02 q05 q06 q07 q0b q0c q0d x1) (z0p q00 q03 q01 q04 q02 q05 q06 q07 q0b q0c q0d x1) (z0w q00 q03 q01 q04 q02 q05 q06 q07 q0b q0c q0d x1) q0b q0c q0d x1)
noncomputable def z5w (q00 : Nat) (q03 : List Nat) (q01 : Nat) (q04 : List Nat) (q02 : Nat) (q05 : List Nat) (q06 : Nat) (q07 : List Nat) (q0b : Int) (q0c : Nat) (q0d : Nat) (x1 : Nat) := (zhx (z0o q00 q03 q01 q04 q02 q05 q06 q07 q0b q0c q0d x1) (z0u q00 q03 q01 q04 q02 q05 q06 q07 q0b q0c q0d x1) (z0n q00 q03 q01 q04 q02 q05 q06 q07 q0b q0c q0d x1) (z0x q00 q03 q01 q04 q02 q05 q06 q07 q0b q0c q0d x1) (z0m q00 q03 q01 q04 q02 q05 q06 q07 q0b q0c q0d x1) (z0t q00 q03 q01 q04 q02 q05 q06 q07 q0b q0c q0d x1) (z0p q00 q03 q01 q04 q02 q05 q06 q07 q0b q0c q0d x1) (z0w q00 q03 q01 q04 q02 q05 q06 q07 q0b q0c q0d x1) q0b q0c q0d x1)
noncomputable def z5v (q00 : Nat) (q03 : List Nat) (q01 : Nat) (q04 : List Nat) (q02 : Nat) (q05 : List Nat) (q06 : Nat) (q07 : List Nat) (q0b : Int) (q0c : Nat) (q0d : Nat) (x1 : Nat) := (zhn (z0o q00 q03 q01 q04 q02 q05 q06 q07 q0b q0c q0d x1) (z0u q00 q03 q01 q04 q02 q05 q06 q07 q0b q0c q0d x1) (z0n q00 q03 q01 q04 q02 q05 q06 q07 q0b q0c q0d x1) (z0x q00 q03 q01 q04 q02 q05 q06 q07 q0b q0c q0d x1) (z0m q00 q03 q01 q04 q02 q05 q06 q07 q0b q0c q0d x1) (z0t q00 q03 q01 q04 q02 q05 q06 q07 q0b q0c q0d x1) (z0p q00 q03 q01 q04 q02 q05 q06 q07 q0b q0c q0d x1) (z0w q00 q03 q01 q04 q02 q05 q06 q07 q0b q0c q0d x1) q0b q0c q0d x1)
noncomputable def z8s (q00 : Nat) (q03 : List Nat) (q01 : Nat) (q04 : List Nat) (q02 : Nat) (q05 : List Nat) (q06 : Nat) (q07 : List Nat) (q0b : Int) (q0c : Nat) (q0d : Nat) (x1 : Nat) := (zi3 (z0o q00 q03 q01 q04 q02 q05 q06 q07 q0b q0c q0d x1) (z0u q00 q03 q01 q04 q02 q05 q06 q07 q0b q0c q0d x1) (z0n q00 q03 q01 q04 q02 q05 q06 q07 q0b q0c q0d x1) (z0x q00 q03 q01 q04 q02 q05 q06 q07 q0b q0c q0d x1) (z0m q00 q03 q01 q04 q02 q05 q06 q07 q0b q0c q0d x1) (z0t q00 q03 q01 q04 q02 q05 q06 q07 q0b q0c q0d x1) (z0p q00 q03 q01 q04 q02 q05 q06 q07 q0b q0c q0d x1) (z0w q00 q03 q01 q04 q02 q05 q06 q07 q0b q0c q0d x1) q0b q0c q0d x1)
noncomputable def zbj (q00 : Nat) (q03 : List Nat) (q01 : Nat) (q04 : List Nat) (q02 : Nat) (q05 : List Nat) (q06 : Nat) (q07 : List Nat) (q0b : Int) (q0c : Nat) (q0d : Nat) (x1 : Nat) := (zht (z0o q00 q03 q01 q04 q02 q05 q06 q07 q0b q0c q0d x1) (z0u q00 q03 q01 q04 q02 q05 q06 q07 q0b q0c q0d x1) (z0n q00 q03 q01 q04 q02 q05 q06 q07 q0b q0c q0d x1) (z0x q00 q03 q01 q04 q02 q05 q06 q07 q0b q0c q0d x1) (z0m q00 q03 q01 q04 q02 q05 q06 q07 q0b q0c q0d x1) (z0t q00 q03 q01 q04 q02 q05 q06 q07 q0b q0c q0d x1) (z0p q00 q03 q01 q04 q02 q05 q06 q07 q0b q0c q0d x1) (z0w q00 q03 q01 q04 q02 q05 q06 q07 q0b q0c q0d x1) q0b q0c q0d x1)
noncomputable def z8t (q00 : Nat) (q03 : List Nat) (q01 : Nat) (q04 : List Nat) (q02 : Nat) (q05 : List Nat) (q06 : Nat) (q07 : List Nat) (q0b : Int) (q0c : Nat) (q0d : Nat) (x1 : Nat) := (zhj (z0o q00 q03 q01 q04 q02 q05 q06 q07 q0b q0c q0d x1) (z0u q00 q03 q01 q04 q02 q05 q06 q07 q0b q0c q0d x1) (z0n q00 q03 q01 q04 q02 q05 q06 q07 q0b q0c q0d x1) (z0x q00 q03 q01 q04 q02 q05 q06 q07 q0b q0c q0d x1) (z0m q00 q03 q01 q04 q02 q05 q06 q07 q0b q0c q0d x1) (z0t q00 q03 q01 q04 q02 q05 q06 q07 q0b q0c q0d x1) (z0p q00 q03 q01 q04 q02 q05 q06 q07 q0b q0c q0d x1) (z0w q00 q03 q01 q04 q02 q05 q06 q07 q0b q0c q0d x1) q0b q0c q0d x1)
noncomputable def zbf (q00 : Nat) (q03 : List Nat) (q01 : Nat) (q04 : List Nat) (q02 : Nat) (q05 : List Nat) (q06 : Nat) (q07 : List Nat) (q0b : Int) (q0c : Nat) (q0d : Nat) (x1 : Nat) := (zi2 (z0o q00 q03 q01 q04 q02 q05 q06 q07 q0b q0c q0d x1) (z0u q00 q03 q01 q04 q02 q05 q06 q07 q0b q0c q0d x1) (z0n q00 q03 q01 q04 q02 q05 q06 q07 q0b q0c q0d x1) (z0x q00 q03 q01 q04 q02 q05 q06 q07 q0b q0c q0d x1) (z0m q00 q03 q01 q04 q02 q05 q06 q07 q0b q0c q0d x1) (z0t q00 q03 q01 q04 q02 q05 q06 q07 q0b q0c q0d x1) (z0p q00 q03 q01 q04 q02 q05 q06 q07 q0b q0c q0d x1) (z0w q00 q03 q01 q04 q02 q05 q06 q07 q0b q0c q0d x1) q0b q0c q0d x1)
noncomputable def z8p (q00 : Nat) (q03 : List Nat) (q01 : Nat) (q04 : List Nat) (q02 : Nat) (q05 : List Nat) (q06 : Nat) (q07 : List Nat) (q0b : Int) (q0c : Nat) (q0d : Nat) (x1 : Nat) := (zi4 (z0o q00 q03 q01 q04 q02 q05 q06 q07 q0b q0c q0d x1) (z0u q00 q03 q01 q04 q02 q05 q06 q07 q0b q0c q0d x1) (z0n q00 q03 q01 q04 q02 q05 q06 q07 q0b q0c q0d x1) (z0x q00 q03 q01 q04 q02 q05 q06 q07 q0b q0c q0d x1) (z0m q00 q03 q01 q04 q02 q05 q06 q07 q0b q0c q0d x1) (z0t q00 q03 q01 q04 q02 q05 q06 q07 q0b q0c q0d x1) (z0p q00 q03 q01 q04 q02 q05 q06 q07 q0b q0c q0d x1) (z0w q00 q03 q01 q04 q02 q05 q06 q07 q0b q0c q0d x1) q0b q0c q0d x1)
noncomputable def z8r (q00 : Nat) (q03 : List Nat) (q01 : Nat) (q04 : List Nat) (q02 : Nat) (q05 : List Nat) (q06 : Nat) (q07 : List Nat) (q0b : Int) (q0c : Nat) (q0d : Nat) (x1 : Nat) := (zi0 (z0o q00 q03 q01 q04 q02 q05 q06 q07 q0b q0c q0d x1) (z0u q00 q03 q01 q04 q02 q05 q06 q07 q0b q0c q0d x1) (z0n q00 q03 q01 q04 q02 q05 q06 q07 q0b q0c q0d x1) (z0x q00 q03 q01 q04 q02 q05 q06 q07 q0b q0c q0d x1) (z0m q00 q03 q01 q04 q02 q05 q06 q07 q0b q0c q0d x1) (z0t q00 q03 q01 q04 q02 q05 q06 q07 q0b q0c q0d x1) (z0p q00 q03 q01 q04 q02 q05 q06 q07 q0b q0c q0d x1) (z0w q00 q03 q01 q04 q02 q05 q06 q07 q0b q0c q0d x1) q0b q0c q0d x1)
noncomputable def z8o (q00 : Nat) (q03 : List Nat) (q01 : Nat) (q04 : List Nat) (q02 : Nat) (q05 : List Nat) (q06 : Nat) (q07 : List Nat) (q0b : Int) (q0c : Nat) (q0d : Nat) (x1 : Nat) := (zfr (z0o q00 q03 q01 q04 q02 q05 q06 q07 q0b q0c q0d x1) (z0u q00 q03 q01 q04 q02 q05 q06 q07 q0b q0c q0d x1) (z0n q00 q03 q01 q04 q02 q05 q06 q07 q0b q0c q0d x1) (z0x q00 q03 q01 q04 q02 q05 q06 q07 q0b q0c q0d x1) (z0m q00 q03 q01 q04 q02 q05 q06 q07 q0b q0c q0d x1) (z0t q00 q03 q01 q04 q02 q05 q06 q07 q0b q0c q0d x1) (z0p q00 q03 q01 q04 q02 q05 q06 q07 q0b q0c q0d x1) (z0w q00 q03 q01 q04 q02 q05 q06 q07 q0b q0c q0d x1) q0b q0c q0d x1)
noncomputable def z9s (q00 : Nat) (q03 : List Nat) (q01 : Nat) (q04 : List Nat) (q02 : Nat) (q05 : List Nat) (q06 : Nat) (q07 : List Nat) (q0b : Int) (q0c : Nat) (q0d : Nat) (x1 : Nat) := (zgy (z0o q00 q03 q01 q04 q02 q05 q06 q07 q0b q0c q0d x1) (z0u q00 q03 q01 q04 q02 q05 q06 q07 q0b q0c q0d x1) (z0n q00 q03 q01 q04 q02 q05 q06 q07 q0b q0c q0d x1) (z0x q00 q03 q01 q04 q02 q05 q06 q07 q0b q0c q0d x1) (z0m q00 q03 q01 q04 q02 q05 q06 q07 q0b q0c q0d x1) (z0t q00 q03 q01 q04 q02 q05 q06 q07 q0b q0c q0d x1) (z0p q00 q03 q01 q04 q02 q05 q06 q07 q0b q0c q0d x1) (z0w q00 q03 q01 q04 q02 q05 q06 q07 q0b q0c q0d x1) q0b q0c q0d x1)
noncomputable def z5u (q00 : Nat) (q03 : List Nat) (q01 : Nat) (q04 : List Nat) (q02 : Nat) (q05 : List Nat) (q06 : Nat) (q07 : List Nat) (q0b : Int) (q0c : Nat) (q0d : Nat) (x1 : Nat) := (zi9 (z0o q00 q03 q01 q04 q02 q05 q06 q07 q0b q0c q0d x1) (z0u q00 q03 q01 q04 q02 q05 q06 q07 q0b q0c q0d x1) (z0n q00 q03 q01 q04 q02 q05 q06 q07 q0b q0c q0d x1) (z0x q00 q03 q01 q04 q02 q05 q06 q07 q0b q0c q0d x1) (z0m q00 q03 q01 q04 q02 q05 q06 q07 q0b q0c q0d x1) (z0t q00 q03 q01 q04 q02 q05 q06 q07 q0b q0c q0d x1) (z0p q00 q03 q01 q04 q02 q05 q06 q07 q0b q0c q0d x1) (z0w q00 q03 q01 q04 q02 q05 q06 q07 q0b q0c q0d x1) q0b q0c q0d x1)
noncomputable def z8n (q00 : Nat) (q03 : List Nat) (q01 : Nat) (q04 : List Nat) (q02 : Nat) (q05 : List Nat) (q06 : Nat) (q07 : List Nat) (q0b : Int) (q0c : Nat) (q0d : Nat) (x1 : Nat) := (zfs (z0o q00 q03 q01 q04 q02 q05 q06 q07 q0b q0c q0d x1) (z0u q00 q03 q01 q04 q02 q05 q06 q07 q0b q0c q0d x1) (z0n q00 q03 q01 q04 q02 q05 q06 q07 q0b q0c q0d x1) (z0x q00 q03 q01 q04 q02 q05 q06 q07 q0b q0c q0d x1) (z0m q00 q03 q01 q04 q02 q05 q06 q07 q0b q0c q0d x1) (z0t q00 q03 q01 q04 q02 q05 q06 q07 q0b q0c q0d x1) (z0p q00 q03 q01 q04 q02 q05 q06 q07 q0b q0c q0d x1) (z0w q00 q03 q01 q04 q02 q05 q06 q07 q0b q0c q0d x1) q0b q0c q0d x1)
noncomputable def z9n (q00 : Nat) (q03 : List Nat) (q01 : Nat) (q04 : List Nat) (q02 : Nat) (q05 : List Nat) (q06 : Nat) (q07 : List Nat) (q0b : Int) (q0c : Nat) (q0d : Nat) (x1 : Nat) := (zhr (z0o q00 q03 q01 q04 q02 q05 q06 q07 q0b q0c q0d x1) (z0u q00 q03 q01 q04 q02 q05 q06 q07 q0b q0c q0d x1) (z0n q00 q03 q01 q04 q02 q05 q06 q07 q0b q0c q0d x1) (z0x q00 q03 q01 q04 q02 q05 q06 q07 q0b q0c q0d x1) (z0m q00 q03 q01 q04 q02 q05 q06 q07 q0b q0c q0d x1) (z0t q00 q03 q01 q04 q02 q05 q06 q07 q0b q0c q0d x1) (z0p q00 q03 q01 q04 q02 q05 q06 q07 q0b q0c q0d x1) (z0w q00 q03 q01 q04 q02 q05 q06 q07 q0b q0c q0d x1) q0b q0c q0d x1)
noncomputable def z9o (q00 : Nat) (q03 : List Nat) (q01 : Nat) (q04 : List Nat) (q02 : Nat) (q05 : List Nat) (q06 : Nat) (q07 : List Nat) (q0b : Int) (q0c : Nat) (q0d : Nat) (x1 : Nat) := (zgv (z0o q00 q03 q01 q04 q02 q05 q06 q07 q0b q0c q0d x1) (z0u q00 q03 q01 q04 q02 q05 q06 q07 q0b q0c q0d x1) (z0n q00 q03 q01 q04 q02 q05 q06 q07 q0b q0c q0d x1) (z0x q00 q03 q01 q04 q02 q05 q06 q07 q0b q0c q0d x1) (z0m q00 q03 q01 q04 q02 q05 q06 q07 q0b q0c q0d x1) (z0t q00 q03 q01 q04 q02 q05 q06 q07 q0b q0c q0d x1) (z0p q00 q03 q01 q04 q02 q05 q06 q07 q0b q0c q0d x1) (z0w q00 q03 q01 q04 q02 q05 q06 q07 q0b q0c q0d x1) q0b q0c q0d x1)
noncomputable def zbc (q00 : Nat) (q03 : List Nat) (q01 : Nat) (q04 : List Nat) (q02 : Nat) (q05 : List Nat) (q06 : Nat) (q07 : List Nat) (q0b : Int) (q0c : Nat) (q0d : Nat) (x1 : Nat) := (zi7 (z0o q00 q03 q01 q04 q02 q05 q06 q07 q0b q0c q0d x1) (z0u q00 q03 q01 q04 q02 q05 q06 q07 q0b q0c q0d x1) (z0n q00 q03 q01 q04 q02 q05 q06 q07 q0b q0c q0d x1) (z0x q00 q03 q01 q04 q02 q05 q06 q07 q0b q0c q0d x1) (z0m q00 q03 q01 q04 q02 q05 q06 q07 q0b q0c q0d x1) (z0t q00 q03 q01 q04 q02 q05 q06 q07 q0b q0c q0d x1) (z0p q00 q03 q01 q04 q02 q05 q06 q07 q0b q0c q0d x1) (z0w q00 q03 q01 q04 q02 q05 q06 q07 q0b q0c q0d x1) q0b q0c q0d x1)
noncomputable def zbd (q00 : Nat) (q03 : List Nat) (q01 : Nat) (q04 : List Nat) (q02 : Nat) (q05 : List Nat) (q06 : Nat) (q07 : List Nat) (q0b : Int) (q0c : Nat) (q0d : Nat) (x1 : Nat) := (muN (z5v q00 q03 q01 q04 q02 q05 q06 q07 q0b q0c q0d x1) 3)
noncomputable def zbn (q00 : Nat) (q03 : List Nat) (q01 : Nat) (q04 : List Nat) (q02 : Nat) (q05 : List Nat) (q06 : Nat) (q07 : List Nat) (q0b : Int) (q0c : Nat) (q0d : Nat) (x1 : Nat) := (muN (z5x q00 q03 q01 q04 q02 q05 q06 q07 q0b q0c q0d x1) 1)
noncomputable def zbe (q00 : Nat) (q03 : List Nat) (q01 : Nat) (q04 : List Nat) (q02 : Nat) (q05 : List Nat) (q06 : Nat) (q07 : List Nat) (q0b : Int) (q0c : Nat) (q0d : Nat) (x1 : Nat) := (muN (z5w q00 q03 q01 q04 q02 q05 q06 q07 q0b q0c q0d x1) 1)
noncomputable def zba (q00 : Nat) (q03 : List Nat) (q01 : Nat) (q04 : List Nat) (q02 : Nat) (q05 : List Nat) (q06 : Nat) (q07 : List Nat) (q0b : Int) (q0c : Nat) (q0d : Nat) (x1 : Nat) := (muN (z5u q00 q03 q01 q04 q02 q05 q06 q07 q0b q0c q0d x1) 1)
noncomputable def z9k (q00 : Nat) (q03 : List Nat) (q01 : Nat) (q04 : List Nat) (q02 : Nat) (q05 : List Nat) (q06 : Nat) (q07 : List Nat) (q0b : Int) (q0c : Nat) (q0d : Nat) (x1 : Nat) := (z6m (z5u q00 q03 q01 q04 q02 q05 q06 q07 q0b q0c q0d x1) 1 0 (z8t q00 q03 q01 q04 q02 q05 q06 q07 q0b q0c q0d x1))
noncomputable def z9q (q00 : Nat) (q03 : List Nat) (q01 : Nat) (q04 : List Nat) (q02 : Nat) (q05 : List Nat) (q06 : Nat) (q07 : List Nat) (q0b : Int) (q0c : Nat) (q0d : Nat) (x1 : Nat) := (bnot (beqB (zhh (z0o q00 q03 q01 q04 q02 q05 q06 q07 q0b q0c q0d x1) (z0u q00 q03 q01 q04 q02 q05 q06 q07 q0b q0c q0d x1) (z0n q00 q03 q01 q04 q02 q05 q06 q07 q0b q0c q0d x1) (z0x q00 q03 q01 q04 q02 q05 q06 q07 q0b q0c q0d x1) (z0m q00 q03 q01 q04 q02 q05 q06 q07 q0b q0c q0d x1) (z0t q00 q03 q01 q04 q02 q05 q06 q07 q0b q0c q0d x1) (z0p q00 q03 q01 q04 q02 q05 q06 q07 q0b q0c q0d x1) (z0w q00 q03 q01 q04 q02 q05 q06 q07 q0b q0c q0d x1) q0b q0c q0d x1) (zhs (z0o q00 q03 q01 q04 q02 q05 q06 q07 q0b q0c q0d x1) (z0u q00 q03 q01 q04 q02 q05 q06 q07 q0b q0c q0d x1) (z0n q00 q03 q01 q04 q02 q05 q06 q07 q0b q0c q0d x1) (z0x q00 q03 q01 q04 q02 q05 q06 q07 q0b q0c q0d x1) (z0m q00 q03 q01 q04 q02 q05 q06 q07 q0b q0c q0d x1) (z0t q00 q03 q01 q04 q02 q05 q06 q07 q0b q0c q0d x1) (z0p q00 q03 q01 q04 q02 q05 q06 q07 q0b q0c q0d x1) (z0w q00 q03 q01 q04 q02 q05 q06 q07 q0b q0c q0d x1) q0b q0c q0d x1)))
noncomputable def zbm (q00 : Nat) (q03 : List Nat) (q01 : Nat) (q04 : List Nat) (q02 : Nat) (q05 : List Nat) (q06 : Nat) (q07 : List Nat) (q0b : Int) (q0c : Nat) (q0d : Nat) (x1 : Nat) := (pF (zg0 (z0o q00 q03 q01 q04 q02 q05 q06 q07 q0b q0c q0d x1) (z0u q00 q03 q01 q04 q02 q05 q06 q07 q0b q0c q0d x1) (z0n q00 q03 q01 q04 q02 q05 q06 q07 q0b q0c q0d x1) (z0x q00 q03 q01 q04 q02 q05 q06 q07 q0b q0c q0d x1) (z0m q00 q03 q01 q04 q02 q05 q06 q07 q0b q0c q0d x1) (z0t q00 q03 q01 q04 q02 q05 q06 q07 q0b q0c q0d x1) (z0p q00 q03 q01 q04 q02 q05 q06 q07 q0b q0c q0d x1) (z0w q00 q03 q01 q04 q02 q05 q06 q07 q0b q0c q0d x1) q0b q0c q0d x1) 0 (muN (z9m q00 q03 q01 q04 q02 q05 q06 q07 q0b q0c q0d x1) 3))
noncomputable def zbx (q00 : Nat) (q03 : List Nat) (q01 : Nat) (q04 : List Nat) (q02 : Nat) (q05 : List Nat) (q06 : Nat) (q07 : List Nat) (q0b : Int) (q0c : Nat) (q0d : Nat) (x1 : Nat) := (pF (z8t q00 q03 q01 q04 q02 q05 q06 q07 q0b q0c q0d x1) 0 (zba q00 q03 q01 q04 q02 q05 q06 q07 q0b q0c q0d x1))
noncomputable def zbk (q00 : Nat) (q03 : List Nat) (q01 : Nat) (q04 : List Nat) (q02 : Nat) (q05 : List Nat) (q06 : Nat) (q07 : List Nat) (q0b : Int) (q0c : Nat) (q0d : Nat) (x1 : Nat) := (pF (zft (z0o q00 q03 q01 q04 q02 q05 q06 q07 q0b q0c q0d x1) (z0u q00 q03 q01 q04 q02 q05 q06 q07 q0b q0c q0d x1) (z0n q00 q03 q01 q04 q02 q05 q06 q07 q0b q0c q0d x1) (z0x q00 q03 q01 q04 q02 q05 q06 q07 q0b q0c q0d x1) (z0m q00 q03 q01 q04 q02 q05 q06 q07 q0b q0c q0d x1) (z0t q00 q03 q01 q04 q02 q05 q06 q07 q0b q0c q0d x1) (z0p q00 q03 q01 q04 q02 q05 q06 q07 q0b q0c q0d x1) (z0w q00 q03 q01 q04 q02 q05 q06 q07 q0b q0c q0d x1) q0b q0c q0d x1) 0 (muN (z9o q00 q03 q01 q04 q02 q05 q06 q07 q0b q0c q0d x1) 1))
noncomputable def zbu (q00 : Nat) (q03 : List Nat) (q01 : Nat) (q04 : List Nat) (q02 : Nat) (q05 : List Nat) (q06 : Nat) (q07 : List Nat) (q0b : Int) (q0c : Nat) (q0d : Nat) (x1 : Nat) := (pF (zid (z0o q00 q03 q01 q04 q02 q05 q06 q07 q0b q0c q0d x1) (z0u q00 q03 q01 q04 q02 q05 q06 q07 q0b q0c q0d x1) (z0n q00 q03 q01 q04 q02 q05 q06 q07 q0b q0c q0d x1) (z0x q00 q03 q01 q04 q02 q05 q06 q07 q0b q0c q0d x1) (z0m q00 q03 q01 q04 q02 q05 q06 q07 q0b q0c q0d x1) (z0t q00 q03 q01 q04 q02 q05 q06 q07 q0b q0c q0d x1) (z0p q00 q03 q01 q04 q02 q05 q06 q07 q0b q0c q0d x1) (z0w q00 q03 q01 q04 q02 q05 q06 q07 q0b q0c q0d x1) q0b q0c q0d x1) 0 (muN (z9s q00 q03 q01 q04 q02 q05 q06 q07 q0b q0c q0d x1) 1))
noncomputable def zbl (q00 : Nat) (q03 : List Nat) (q01 : Nat) (q04 : List Nat) (q02 : Nat) (q05 : List Nat) (q06 : Nat) (q07 : List Nat) (q0b : Int) (q0c : Nat) (q0d : Nat) (x1 : Nat) := (pF (zhp (z0o q00 q03 q01 q04 q02 q05 q06 q07 q0b q0c q0d x1) (z0u q00 q03 q01 q04 q02 q05 q06 q07 q0b q0c q0d x1) (z0n q00 q03 q01 q04 q02 q05 q06 q07 q0b q0c q0d x1) (z0x q00 q03 q01 q04 q02 q05 q06 q07 q0b q0c q0d x1) (z0m q00 q03 q01 q04 q02 q05 q06 q07 q0b q0c q0d x1) (z0t q00 q03 q01 q04 q02 q05 q06 q07 q0b q0c q0d x1) (z0p q00 q03 q01 q04 q02 q05 q06 q07 q0b q0c q0d x1) (z0w q00 q03 q01 q04 q02 q05 q06 q07 q0b q0c q0d x1) q0b q0c q0d x1) 0 (muN (z9n q00 q03 q01 q04 q02 q05 q06 q07 q0b q0c q0d x1) 1))
noncomputable def zbi (q00 : Nat) (q03 : List Nat) (q01 : Nat) (q04 : List Nat) (q02 : Nat) (q05 : List Nat) (q06 : Nat) (q07 : List Nat) (q0b : Int) (q0c : Nat) (q0d : Nat) (x1 : Nat) := (pF (z8p q00 q03 q01 q04 q02 q05 q06 q07 q0b q0c q0d x1) 0 (zbe q00 q03 q01 q04 q02 q05 q06 q07 q0b q0c q0d x1))
noncomputable def zbs (q00 : Nat) (q03 : List Nat) (q01 : Nat) (q04 : List Nat) (q02 : Nat) (q05 : List Nat) (q06 : Nat) (q07 : List Nat) (q0b : Int) (q0c : Nat) (q0d : Nat) (x1 : Nat) := (pF (z8n q00 q03 q01 q04 q02 q05 q06 q07 q0b q0c q0d x1) 0 (zbd q00 q03 q01 q04 q02 q05 q06 q07 q0b q0c q0d x1))
noncomputable def zbr (q00 : Nat) (q03 : List Nat) (q01 : Nat) (q04 : List Nat) (q02 : Nat) (q05 : List Nat) (q06 : Nat) (q07 : List Nat) (q0b : Int) (q0c : Nat) (q0d : Nat) (x1 : Nat) := (pF (z8o q00 q03 q01 q04 q02 q05 q06 q07 q0b q0c q0d x1) 0 (zbn q00 q03 q01 q04 q02 q05 q06 q07 q0b q0c q0d x1))
noncomputable def zbz (q00 : Nat) (q03 : List Nat) (q01 : Nat) (q04 : List Nat) (q02 : Nat) (q05 : List Nat) (q06 : Nat) (q07 : List Nat) (q0b : Int) (q0c : Nat) (q0d : Nat) (x1 : Nat) := (pF (z6n (z5u q00 q03 q01 q04 q02 q05 q06 q07 q0b q0c q0d x1) 1 0 (z8t q00 q03 q01 q04 q02 q05 q06 q07 q0b q0c q0d x1)) 0 (zba q00 q03 q01 q04 q02 q05 q06 q07 q0b q0c q0d x1))
noncomputable def z9t (q00 : Nat) (q03 : List Nat) (q01 : Nat) (q04 : List Nat) (q02 : Nat) (q05 : List Nat) (q06 : Nat) (q07 : List Nat) (q0b : Int) (q0c : Nat) (q0d : Nat) (x1 : Nat) := (z6l (z5w q00 q03 q01 q04 q02 q05 q06 q07 q0b q0c q0d x1) (z9k q00 q03 q01 q04 q02 q05 q06 q07 q0b q0c q0d x1) 0 (z8p q00 q03 q01 q04 q02 q05 q06 q07 q0b q0c q0d x1))
noncomputable def zby (q00 : Nat) (q03 : List Nat) (q01 : Nat) (q04 : List Nat) (q02 : Nat) (q05 : List Nat) (q06 : Nat) (q07 : List Nat) (q0b : Int) (q0c : Nat) (q0d : Nat) (x1 : Nat) := (pF (z6k (z5w q00 q03 q01 q04 q02 q05 q06 q07 q0b q0c q0d x1) (z9k q00 q03 q01 q04 q02 q05 q06 q07 q0b q0c q0d x1) 0 (z8p q00 q03 q01 q04 q02 q05 q06 q07 q0b q0c q0d x1)) 0 (zbe q00 q03 q01 q04 q02 q05 q06 q07 q0b q0c q0d x1))
noncomputable def z9r (q00 : Nat) (q03 : List Nat) (q01 : Nat) (q04 : List Nat) (q02 : Nat) (q05 : List Nat) (q06 : Nat) (q07 : List Nat) (q0b : Int) (q0c : Nat) (q0d : Nat) (x1 : Nat) := (z6d (z5x q00 q03 q01 q04 q02 q05 q06 q07 q0b q0c q0d x1) (z9t q00 q03 q01 q04 q02 q05 q06 q07 q0b q0c q0d x1) 0 (z8o q00 q03 q01 q04 q02 q05 q06 q07 q0b q0c q0d x1))
noncomputable def zbt (q00 : Nat) (q03 : List Nat) (q01 : Nat) (q04 : List Nat) (q02 : Nat) (q05 : List Nat) (q06 : Nat) (q07 : List Nat) (q0b : Int) (q0c : Nat) (q0d : Nat) (x1 : Nat) := (pF (z6i (z5x q00 q03 q01 q04 q02 q05 q06 q07 q0b q0c q0d x1) (z9t q00 q03 q01 q04 q02 q05 q06 q07 q0b q0c q0d x1) 0 (z8o q00 q03 q01 q04 q02 q05 q06 q07 q0b q0c q0d x1)) 0 (zbn q00 q03 q01 q04 q02 q05 q06 q07 q0b q0c q0d x1))
noncomputable def zbh (q00 : Nat) (q03 : List Nat) (q01 : Nat) (q04 : List Nat) (q02 : Nat) (q05 : List Nat) (q06 : Nat) (q07 : List Nat) (q0b : Int) (q0c : Nat) (q0d : Nat) (x1 : Nat) := (pF (z6h (z5v q00 q03 q01 q04 q02 q05 q06 q07 q0b q0c q0d x1) (z9r q00 q03 q01 q04 q02 q05 q06 q07 q0b q0c q0d x1) 0 (z8n q00 q03 q01 q04 q02 q05 q06 q07 q0b q0c q0d x1)) 0 (zbd q00 q03 q01 q04 q02 q05 q06 q07 q0b q0c q0d x1))
noncomputable def z9p (q00 : Nat) (q03 : List Nat) (q01 : Nat) (q04 : List Nat) (q02 : Nat) (q05 : List Nat) (q06 : Nat) (q07 : List Nat) (q0b : Int) (q0c : Nat) (q0d : Nat) (x1 : Nat) := (zf5 (z5u q00 q03 q01 q04 q02 q05 q06 q07 q0b q0c q0d x1) (zbx q00 q03 q01 q04 q02 q05 q06 q07 q0b q0c q0d x1) (z5w q00 q03 q01 q04 q02 q05 q06 q07 q0b q0c q0d x1) (zbi q00 q03 q01 q04 q02 q05 q06 q07 q0b q0c q0d x1) (z5x q00 q03 q01 q04 q02 q05 q06 q07 q0b q0c q0d x1) (zbr q00 q03 q01 q04 q02 q05 q06 q07 q0b q0c q0d x1) (z5v q00 q03 q01 q04 q02 q05 q06 q07 q0b q0c q0d x1) (zbs q00 q03 q01 q04 q02 q05 q06 q07 q0b q0c q0d x1) (z8s q00 q03 q01 q04 q02 q05 q06 q07 q0b q0c q0d x1) (z8r q00 q03 q01 q04 q02 q05 q06 q07 q0b q0c q0d x1) (z8q q00 q03 q01 q04 q02 q05 q06 q07 q0b q0c q0d x1) (z9s q00 q03 q01 q04 q02 q05 q06 q07 q0b q0c q0d x1) (zbu q00 q03 q01 q04 q02 q05 q06 q07 q0b q0c q0d x1) (z9n q00 q03 q01 q04 q02 q05 q06 q07 q0b q0c q0d x1) (zbl q00 q03 q01 q04 q02 q05 q06 q07 q0b q0c q0d x1) (z9o q00 q03 q01 q04 q02 q05 q06 q07 q0b q0c q0d x1) (zbk q00 q03 q01 q04 q02 q05 q06 q07 q0b q0c q0d x1) (z9m q00 q03 q01 q04 q02 q05 q06 q07 q0b q0c q0d x1) (zbm q00 q03 q01 q04 q02 q05 q06 q07 q0b q0c q0d x1) (zbj q00 q03 q01 q04 q02 q05 q06 q07 q0b q0c q0d x1) (zbc q00 q03 q01 q04 q02 q05 q06 q07 q0b q0c q0d x1) (zbf q00 q03 q01 q04 q02 q05 q06 q07 q0b q0c q0d x1))
noncomputable def z9l (q00 : Nat) (q03 : List Nat) (q01 : Nat) (q04 : List Nat) (q02 : Nat) (q05 : List Nat) (q06 : Nat) (q07 : List Nat) (q0b : Int) (q0c : Nat) (q0d : Nat) (x1 : Nat) := (bnot (zed (z5u q00 q03 q01 q04 q02 q05 q06 q07 q0b q0c q0d x1) (zbx q00 q03 q01 q04 q02 q05 q06 q07 q0b q0c q0d x1) (z5w q00 q03 q01 q04 q02 q05 q06 q07 q0b q0c q0d x1) (zbi q00 q03 q01 q04 q02 q05 q06 q07 q0b q0c q0d x1) (z5x q00 q03 q01 q04 q02 q05 q06 q07 q0b q0c q0d x1) (zbr q00 q03 q01 q04 q02 q05 q06 q07 q0b q0c q0d x1) (z5v q00 q03 q01 q04 q02 q05 q06 q07 q0b q0c q0d x1) (zbs q00 q03 q01 q04 q02 q05 q06 q07 q0b q0c q0d x1) (z8s q00 q03 q01 q04 q02 q05 q06 q07 q0b q0c q0d x1) (z8r q00 q03 q01 q04 q02 q05 q06 q07 q0b q0c q0d x1) (z8q q00 q03 q01 q04 q02 q05 q06 q07 q0b q0c q0d x1) (z9s q00 q03 q01 q04 q02 q05 q06 q07 q0b q0c q0d x1) (zbu q00 q03 q01 q04 q02 q05 q06 q07 q0b q0c q0d x1) (z9n q00 q03 q01 q04 q02 q05 q06 q07 q0b q0c q0d x1) (zbl q00 q03 q01 q04 q02 q05 q06 q07 q0b q0c q0d x1) (z9o q00 q03 q01 q04 q02 q05 q06 q07 q0b q0c q0d x1) (zbk q00 q03 q01 q04 q02 q05 q06 q07 q0b q0c q0d x1) (z9m q00 q03 q01 q04 q02 q05 q06 q07 q0b q0c q0d x1) (zbm q00 q03 q01 q04 q02 q05 q06 q07 q0b q0c q0d x1) (zbj q00 q03 q01 q04 q02 q05 q06 q07 q0b q0c q0d x1) (zbc q00 q03 q01 q04 q02 q05 q06 q07 q0b q0c q0d x1) (zbf q00 q03 q01 q04 q02 q05 q06 q07 q0b q0c q0d x1)))
noncomputable def zbb (q00 : Nat) (q03 : List Nat) (q01 : Nat) (q04 : List Nat) (q02 : Nat) (q05 : List Nat) (q06 : Nat) (q07 : List Nat) (q0b : Int) (q0c : Nat) (q0d : Nat) (x1 : Nat) := (zjk (z5u q00 q03 q01 q04 q02 q05 q06 q07 q0b q0c q0d x1) (zbz q00 q03 q01 q04 q02 q05 q06 q07 q0b q0c q0d x1) (z5w q00 q03 q01 q04 q02 q05 q06 q07 q0b q0c q0d x1) (zby q00 q03 q01 q04 q02 q05 q06 q07 q0b q0c q0d x1) (z5x q00 q03 q01 q04 q02 q05 q06 q07 q0b q0c q0d x1) (zbt q00 q03 q01 q04 q02 q05 q06 q07 q0b q0c q0d x1) (z5v q00 q03 q01 q04 q02 q05 q06 q07 q0b q0c q0d x1) (zbh q00 q03 q01 q04 q02 q05 q06 q07 q0b q0c q0d x1) (z8s q00 q03 q01 q04 q02 q05 q06 q07 q0b q0c q0d x1) (z8r q00 q03 q01 q04 q02 q05 q06 q07 q0b q0c q0d x1) (z8q q00 q03 q01 q04 q02 q05 q06 q07 q0b q0c q0d x1) 1)
noncomputable def zbv (q00 : Nat) (q03 : List Nat) (q01 : Nat) (q04 : List Nat) (q02 : Nat) (q05 : List Nat) (q06 : Nat) (q07 : List Nat) (q0b : Int) (q0c : Nat) (q0d : Nat) (x1 : Nat) := (zl7 (z5u q00 q03 q01 q04 q02 q05 q06 q07 q0b q0c q0d x1) (zbz q00 q03 q01 q04 q02 q05 q06 q07 q0b q0c q0d x1) (z5w q00 q03 q01 q04 q02 q05 q06 q07 q0b q0c q0d x1) (zby q00 q03 q01 q04 q02 q05 q06 q07 q0b q0c q0d x1) (z5x q00 q03 q01 q04 q02 q05 q06 q07 q0b q0c q0d x1) (zbt q00 q03 q01 q04 q02 q05 q06 q07 q0b q0c q0d x1) (z5v q00 q03 q01 q04 q02 q05 q06 q07 q0b q0c q0d x1) (zbh q00 q03 q01 q04 q02 q05 q06 q07 q0b q0c q0d x1) (z8s q00 q03 q01 q04 q02 q05 q06 q07 q0b q0c q0d x1) (z8r q00 q03 q01 q04 q02 q05 q06 q07 q0b q0c q0d x1) (z8q q00 q03 q01 q04 q02 q05 q06 q07 q0b q0c q0d x1) 1)
noncomputable def zbg (q00 : Nat) (q03 : List Nat) (q01 : Nat) (q04 : List Nat) (q02 : Nat) (q05 : List Nat) (q06 : Nat) (q07 : List Nat) (q0b : Int) (q0c : Nat) (q0d : Nat) (x1 : Nat) := (ltI (zbb q00 q03 q01 q04 q02 q05 q06 q07 q0b q0c q0d x1) 0)
noncomputable def zbp (q00 : Nat) (q03 : List Nat) (q01 : Nat) (q04 : List Nat) (q02 : Nat) (q05 : List Nat) (q06 : Nat) (q07 : List Nat) (q0b : Int) (q0c : Nat) (q0d : Nat) (x1 : Nat) := (neI (zbb q00 q03 q01 q04 q02 q05 q06 q07 q0b q0c q0d x1) (z6e (z5v q00 q03 q01 q04 q02 q05 q06 q07 q0b q0c q0d x1) (z9r q00 q03 q01 q04 q02 q05 q06 q07 q0b q0c q0d x1) 0 (z8n q00 q03 q01 q04 q02 q05 q06 q07 q0b q0c q0d x1)))
noncomputable def z9c {R : Type} (q00 : Nat) (q03 : List Nat) (q01 : Nat) (q04 : List Nat) (q02 : Nat) (q05 : List Nat) (q06 : Nat) (q07 : List Nat) (q0b : Int) (q0c : Nat) (q0d : Nat) (x1 : Nat) (k_ : Bool → Option R) : Option R := (grd (zjx q00 (pF q03 0 (muN q00 1)) q01 (pF q04 0 (muN q01 1)) q02 (pF q05 0 (muN q02 1)) q06 (pF q07 0 (muN q06 3)) q0b q0c q0d 1048576) (br (ltI (zhl q00 (pF q03 0 (muN q00 1)) q01 (pF q04 0 (muN q01 1)) q02 (pF q05 0 (muN q02 1)) q06 (pF q07 0 (muN q06 3)) q0b q0c q0d 1048576) 0) (k_ Bool.true) (grd (z95 q00 q03 q01 q04 q02 q05 q06 q07 q0b q0c q0d x1) (grd (zjq (z0o q00 q03 q01 q04 q02 q05 q06 q07 q0b q0c q0d x1) (z0u q00 q03 q01 q04 q02 q05 q06 q07 q0b q0c q0d x1) (z0n q00 q03 q01 q04 q02 q05 q06 q07 q0b q0c q0d x1) (z0x q00 q03 q01 q04 q02 q05 q06 q07 q0b q0c q0d x1) (z0m q00 q03 q01 q04 q02 q05 q06 q07 q0b q0c q0d x1) (z0t q00 q03 q01 q04 q02 q05 q06 q07 q0b q0c q0d x1) (z0p q00 q03 q01 q04 q02 q05 q06 q07 q0b q0c q0d x1) (z0w q00 q03 q01 q04 q02 q05 q06 q07 q0b q0c q0d x1) q0b q0c q0d x1) (grd (z95 q00 q03 q01 q04 q02 q05 q06 q07 q0b q0c q0d x1) (grd (zbw q00 q03 q01 q04 q02 q05 q06 q07 q0b q0c q0d x1) (grd (z9p q00 q03 q01 q04 q02 q05 q06 q07 q0b q0c q0d x1) (br (z9l q00 q03 q01 q04 q02 q05 q06 q07 q0b q0c q0d x1) (k_ Bool.false) (br (z9q q00 q03 q01 q04 q02 q05 q06 q07 q0b q0c q0d x1) (k_ Bool.false) (grd (z95 q00 q03 q01 q04 q02 q05 q06 q07 q0b q0c q0d x1) (grd (zf5 (z0o q00 q03 q01 q04 q02 q05 q06 q07 q0b q0c q0d x1) (z0u q00 q03 q01 q04 q02 q05 q06 q07 q0b q0c q0d x1) (z0n q00 q03 q01 q04 q02 q05 q06 q07 q0b q0c q0d x1) (z0x q00 q03 q01 q04 q02 q05 q06 q07 q0b q0c q0d x1) (z0m q00 q03 q01 q04 q02 q05 q06 q07 q0b q0c q0d x1) (z0t q00 q03 q01 q04 q02 q05 q06 q07 q0b q0c q0d x1) (z0p q00 q03 q01 q04 q02 q05 q06 q07 q0b q0c q0d x1) (z0w q00 q03 q01 q04 q02 q05 q06 q07 q0b q0c q0d x1) q0b q0c q0d (z0o q00 q03 q01 q04 q02 q05 q06 q07 q0b q0c q0d x1) (z0u q00 q03 q01 q04 q02 q05 q06 q07 q0b q0c q0d x1) (z0n q00 q03 q01 q04 q02 q05 q06 q07 q0b q0c q0d x1) (z0x q00 q03 q01 q04 q02 q05 q06 q07 q0b q0c q0d x1) (z0m q00 q03 q01 q04 q02 q05 q06 q07 q0b q0c q0d x1) (z0t q00 q03 q01 q04 q02 q05 q06 q07 q0b q0c q0d x1) (z0p q00 q03 q01 q04 q02 q05 q06 q07 q0b q0c q0d x1) (z0w q00 q03 q01 q04 q02 q05 q06 q07 q0b q0c q0d x1) q0b q0c q0d) (br (bnot (zed (z0o q00 q03 q01 q04 q02 q05 q06 q07 q0b q0c q0d x1) (z0u q00 q03 q01 q04 q02 q05 q06 q07 q0b q0c q0d x1) (z0n q00 q03 q01 q04 q02 q05 q06 q07 q0b q0c q0d x1) (z0x q00 q03 q01 q04 q02 q05 q06 q07 q0b q0c q0d x1) (z0m q00 q03 q01 q04 q02 q05 q06 q07 q0b q0c q0d x1) (z0t q00 q03 q01 q04 q02 q05 q06 q07 q0b q0c q0d x1) (z0p q00 q03 q01 q04 q02 q05 q06 q07 q0b q0c q0d x1) (z0w q00 q03 q01 q04 q02 q05 q06 q07 q0b q0c q0d x1) q0b q0c q0d (z0o q00 q03 q01 q04 q02 q05 q06 q07 q0b q0c q0d x1) (z0u q00 q03 q01 q04 q02 q05 q06 q07 q0b q0c q0d x1) (z0n q00 q03 q01 q04 q02 q05 q06 q07 q0b q0c q0d x1) (z0x q00 q03 q01 q04 q02 q05 q06 q07 q0b q0c q0d x1) (z0m q00 q03 q01 q04 q02 q05 q06 q07 q0b q0c q0d x1) (z0t q00 q03 q01 q04 q02 q05 q06 q07 q0b q0c q0d x1) (z0p q00 q03 q01 q04 q02 q05 q06 q07 q0b q0c q0d x1) (z0w q00 q03 q01 q04 q02 q05 q06 q07 q0b q0c q0d x1) q0b q0c q0d)) (k_ Bool.false) (grd (z7j (z0o q00 q03 q01 q04 q02 q05 q06 q07 q0b q0c q0d x1) 1 0 (za5 q00 q03 q01 q04 q02 q05 q06 q07 q0b q0c q0d x1)) (grd (z77 (z0n q00 q03 q01 q04 q02 q05 q06 q07 q0b q0c q0d x1) (zcl q00 q03 q01 q04 q02 q05 q06 q07 q0b q0c q0d x1) 0 (za1 q00 q03 q01 q04 q02 q05 q06 q07 q0b q0c q0d x1)) (grd (z7b (z0m q00 q03 q01 q04 q02 q05 q06 q07 q0b q0c q0d x1) (zbo q00 q03 q01 q04 q02 q05 q06 q07 q0b q0c q0d x1) 0 (za4 q00 q03 q01 q04 q02 q05 q06 q07 q0b q0c q0d x1)) (grd (z7i (z0p q00 q03 q01 q04 q02 q05 q06 q07 q0b q0c q0d x1) (zbq q00 q03 q01 q04 q02 q05 q06 q07 q0b q0c q0d x1) 0 (za2 q00 q03 q01 q04 q02 q05 q06 q07 q0b q0c q0d x1)) (br (ltI (z6r (z0p q00 q03 q01 q04 q02 q05 q06 q07 q0b q0c q0d x1) (zbq q00 q03 q01 q04 q02 q05 q06 q07 q0b q0c q0d x1) 0 (za2 q00 q03 q01 q04 q02 q05 q06 q07 q0b q0c q0d x1)) 0) (k_ Bool.false) (grd (z9p q00 q03 q01 q04 q02 q05 q06 q07 q0b q0c q0d x1) (br (z9l q00 q03 q01 q04 q02 q05 q06 q07 q0b q0c q0d x1) (k_ Bool.false) (br (z9q q00 q03 q01 q04 q02 q05 q06 q07 q0b q0c q0d x1) (k_ Bool.false) (grd (z7a (z5u q00 q03 q01 q04 q02 q05 q06 q07 q0b q0c q0d x1) 1 0 (z8t q00 q03 q01 q04 q02 q05 q06 q07 q0b q0c q0d x1)) (grd (z70 (z5w q00 q03 q01 q04 q02 q05 q06 q07 q0b q0c q0d x1) (z9k q00 q03 q01 q04 q02 q05 q06 q07 q0b q0c q0d x1) 0 (z8p q00 q03 q01 q04 q02 q05 q06 q07 q0b q0c q0d x1)) (grd (z74 (z5x q00 q03 q01 q04 q02 q05 q06 q07 q0b q0c q0d x1) (z9t q00 q03 q01 q04 q02 q05 q06 q07 q0b q0c q0d x1) 0 (z8o q00 q03 q01 q04 q02 q05 q06 q07 q0b q0c q0d x1)) (grd (z75 (z5v q00 q03 q01 q04 q02 q05 q06 q07 q0b q0c q0d x1) (z9r q00 q03 q01 q04 q02 q05 q06 q07 q0b q0c q0d x1) 0 (z8n q00 q03 q01 q04 q02 q05 q06 q07 q0b q0c q0d x1)) (grd (zbv q00 q03 q01 q04 q02 q05 q06 q07 q0b q0c q0d x1) (br (zbg q00 q03 q01 q04 q02 q05 q06 q07 q0b q0c q0d x1) (k_ Bool.false) (br (zbp q00 q03 q01 q04 q02 q05 q06 q07 q0b q0c q0d x1) (k_ Bool.false) (grd (z95 q00 q03 q01 q04 q02 q05 q06 q07 q0b q0c q0d x1) (grd (zbw q00 q03 q01 q04 q02 q05 q06 q07 q0b q0c q0d x1) (grd (z9p q00 q03 q01 q04 q02 q05 q06 q07 q0b q0c q0d x1) (br (z9l q00 q03 q01 q04 q02 q05 q06 q07 q0b q0c q0d x1) (k_ Bool.false) (br (z9q q00 q03 q01 q04 q02 q05 q06 q07 q0b q0c q0d x1) (k_ Bool.false) (grd (zbv q00 q03 q01 q04 q02 q05 q06 q07 q0b q0c q0d x1) (br (zbg q00 q03 q01 q04 q02 q05 q06 q07 q0b q0c q0d x1) (k_ Bool.false) (br (zbp q00 q03 q01 q04 q02 q05 q06 q07 q0b q0c q0d x1) (k_ Bool.false) (k_ Bool.true))))))))))))))))))))))))))))))))))))
noncomputable def z9b (q00 : Nat) (q03 : List Nat) (q01 : Nat) (q04 : List Nat) (q02 : Nat) (q05 : List Nat) (q06 : Nat) (q07 : List Nat) (q0b : Int) (q0c : Nat) (q0d : Nat) (x1 : Nat) : Option (Bool) := z9c q00 q03 q01 q04 q02 q05 q06 q07 q0b q0c q0d x1 (fun c0_ => some c0_)
theorem zmr {R R' : Type} (o : Option R → Option R') (h0 : o none = none) (q00 : Nat) (q03 : List Nat) (q01 : Nat) (q04 : List Nat) (q02 : Nat) (q05 : List Nat) (q06 : Nat) (q07 : List Nat) (q0b : Int) (q0c : Nat) (q0d : Nat) (x1 : Nat) (k_ : Bool → Option R) : z9c q00 q03 q01 q04 q02 q05 q06 q07 q0b q0c q0d x1 (fun c0_ => o (k_ c0_)) = o (z9c q00 q03 q01 q04 q02 q05 q06 q07 q0b q0c q0d x1 k_) := by
  unfold z9c
  repeat (first | refine grd_out h0 ?_ | refine br_out ?_ ?_ | rfl | exact h0.symm)
noncomputable def zfd (q00 : Nat) (q03 : List Nat) (q01 : Nat) (q04 : List Nat) (q02 : Nat) (q05 : List Nat) (q06 : Nat) (q07 : List Nat) (q0b : Int) (q0c : Nat) (q0d : Nat) (x1 : Nat) : Bool := (z9b q00 q03 q01 q04 q02 q05 q06 q07 q0b q0c q0d x1).isSome
noncomputable def zen (q00 : Nat) (q03 : List Nat) (q01 : Nat) (q04 : List Nat) (q02 : Nat) (q05 : List Nat) (q06 : Nat) (q07 : List Nat) (q0b : Int) (q0c : Nat) (q0d : Nat) (x1 : Nat) : Bool := ((z9b q00 q03 q01 q04 q02 q05 q06 q07 q0b q0c q0d x1).getD default)
theorem zng {q00 : Nat} {q03 : List Nat} {q01 : Nat} {q04 : List Nat} {q02 : Nat} {q05 : List Nat} {q06 : Nat} {q07 : List Nat} {q0b : Int} {q0c : Nat} {q0d : Nat} {x1 : Nat} {r : Bool} (h : z9b q00 q03 q01 q04 q02 q05 q06 q07 q0b q0c q0d x1 = some r) : zfd q00 q03 q01 q04 q02 q05 q06 q07 q0b q0c q0d x1 = true ∧ zen q00 q03 q01 q04 q02 q05 q06 q07 q0b q0c q0d x1 = r := by
  unfold zfd zen
  rw [h]
  exact ⟨rfl, rfl⟩
end Go.Rf
