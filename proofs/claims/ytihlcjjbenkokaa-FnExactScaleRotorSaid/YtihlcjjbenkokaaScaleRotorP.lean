import Derived.Test.YtihlcjjbenkokaaB
set_option linter.unusedVariables false
set_option linter.unusedSimpArgs false
set_option maxRecDepth 100000
set_option maxHeartbeats 4000000
namespace Go.Rf
open Go
noncomputable def zdz {R : Type} (a : Nat) (b : Nat) (k_ : Bool → Option R) : Option R := (br (fcmp BinOp.neq FloatKind.f64 a a) (br (fcmp BinOp.neq FloatKind.f64 a a) (k_ (fcmp BinOp.neq FloatKind.f64 b b)) (k_ Bool.false)) (br (fcmp BinOp.neq FloatKind.f64 b b) (br (fcmp BinOp.neq FloatKind.f64 a a) (k_ (fcmp BinOp.neq FloatKind.f64 b b)) (k_ Bool.false)) (br (fcmp BinOp.eql FloatKind.f64 a 0) (br (fcmp BinOp.eql FloatKind.f64 b 0) (k_ (beqB (fcmp BinOp.gtr FloatKind.f64 (fop BinOp.quo FloatKind.f64 4607182418800017408 a) 0) (fcmp BinOp.gtr FloatKind.f64 (fop BinOp.quo FloatKind.f64 4607182418800017408 b) 0))) (k_ (fcmp BinOp.eql FloatKind.f64 a b))) (k_ (fcmp BinOp.eql FloatKind.f64 a b)))))
noncomputable def ze3 (a : Nat) (b : Nat) : Option (Bool) := zdz a b (fun c0_ => some c0_)
theorem zq7 {R R' : Type} (o : Option R → Option R') (h0 : o none = none) (a : Nat) (b : Nat) (k_ : Bool → Option R) : zdz a b (fun c0_ => o (k_ c0_)) = o (zdz a b k_) := by
  unfold zdz
  repeat (first | refine grd_out h0 ?_ | refine br_out ?_ ?_ | rfl | exact h0.symm)
noncomputable def z9h (a : Nat) (b : Nat) : Bool := (ze3 a b).isSome
noncomputable def z97 (a : Nat) (b : Nat) : Bool := ((ze3 a b).getD default)
theorem z9x {a : Nat} {b : Nat} {r : Bool} (h : ze3 a b = some r) : z9h a b = true ∧ z97 a b = r := by
  unfold z9h z97
  rw [h]
  exact ⟨rfl, rfl⟩
noncomputable def zfb {R : Type} (q2j : Nat) (q2p : Nat) (q2o : Nat) (k_ : Unit → Option R) : Option R := (k_ ())
noncomputable def zny (q2j : Nat) (q2p : Nat) (q2o : Nat) : Option (Unit) := zfb q2j q2p q2o (fun _ => some ())
theorem zqd {R R' : Type} (o : Option R → Option R') (h0 : o none = none) (q2j : Nat) (q2p : Nat) (q2o : Nat) (k_ : Unit → Option R) : zfb q2j q2p q2o (fun _ => o (k_ ())) = o (zfb q2j q2p q2o k_) := by
  unfold zfb
  repeat (first | refine grd_out h0 ?_ | refine br_out ?_ ?_ | rfl | exact h0.symm)
noncomputable def zmi (q2j : Nat) (q2p : Nat) (q2o : Nat) : Bool := (zny q2j q2p q2o).isSome
noncomputable def zdh {R : Type} (a_n : Nat) (a : List Nat) (q2c : Int) (k_ : Int → Option R) : Option R := (br (ltI (subI IntKind.i64 q2c (Int.ofNat a_n)) 0) (k_ (Int.negSucc 0)) (k_ (subI IntKind.i64 q2c (Int.ofNat a_n))))
noncomputable def zd9 (a_n : Nat) (a : List Nat) (q2c : Int) : Option (Int) := zdh a_n a q2c (fun c0_ => some c0_)
theorem zp7 {R R' : Type} (o : Option R → Option R') (h0 : o none = none) (a_n : Nat) (a : List Nat) (q2c : Int) (k_ : Int → Option R) : zdh a_n a q2c (fun c0_ => o (k_ c0_)) = o (zdh a_n a q2c k_) := by
  unfold zdh
  repeat (first | refine grd_out h0 ?_ | refine br_out ?_ ?_ | rfl | exact h0.symm)
noncomputable def zd8 (a_n : Nat) (a : List Nat) (q2c : Int) : Bool := (zd9 a_n a q2c).isSome
noncomputable def z5m (a_n : Nat) (a : List Nat) (q2c : Int) : Int := ((zd9 a_n a q2c).getD default)
theorem zlw {a_n : Nat} {a : List Nat} {q2c : Int} {r : Int} (h : zd9 a_n a q2c = some r) : zd8 a_n a q2c = true ∧ z5m a_n a q2c = r := by
  unfold zd8 z5m
  rw [h]
  exact ⟨rfl, rfl⟩
noncomputable def zgx {R : Type} (x : Nat) (k_ : Bool → Option R) : Option R := (k_ (fcmp BinOp.eql FloatKind.f32 (fop BinOp.sub FloatKind.f32 x x) 0))
noncomputable def zhs (x : Nat) : Option (Bool) := zgx x (fun c0_ => some c0_)
theorem zr1 {R R' : Type} (o : Option R → Option R') (h0 : o none = none) (x : Nat) (k_ : Bool → Option R) : zgx x (fun c0_ => o (k_ c0_)) = o (zgx x k_) := by
  unfold zgx
  repeat (first | refine grd_out h0 ?_ | refine br_out ?_ ?_ | rfl | exact h0.symm)
noncomputable def za5 (x : Nat) : Bool := (zhs x).isSome
noncomputable def z9i (x : Nat) : Bool := ((zhs x).getD default)
theorem zfd {x : Nat} {r : Bool} (h : zhs x = some r) : za5 x = true ∧ z9i x = r := by
  unfold za5 z9i
  rw [h]
  exact ⟨rfl, rfl⟩
noncomputable def zfh {R : Type} (x : Nat) (k_ : Bool → Option R) : Option R := (k_ (fcmp BinOp.eql FloatKind.f32 (fop BinOp.sub FloatKind.f32 x x) 0))
noncomputable def zfi (x : Nat) : Option (Bool) := zfh x (fun c0_ => some c0_)
theorem zps {R R' : Type} (o : Option R → Option R') (h0 : o none = none) (x : Nat) (k_ : Bool → Option R) : zfh x (fun c0_ => o (k_ c0_)) = o (zfh x k_) := by
  unfold zfh
  repeat (first | refine grd_out h0 ?_ | refine br_out ?_ ?_ | rfl | exact h0.symm)
noncomputable def z81 (x : Nat) : Bool := (zfi x).isSome
noncomputable def z7p (x : Nat) : Bool := ((zfi x).getD default)
theorem zel {x : Nat} {r : Bool} (h : zfi x = some r) : z81 x = true ∧ z7p x = r := by
  unfold z81 z7p
  rw [h]
  exact ⟨rfl, rfl⟩
noncomputable def zk1 {R : Type} (n_ : Int) (low : Int) (q2v : Int) (k_ : Bool → Option R) : Option R := (br (leI low n_) (k_ (leI n_ q2v)) (k_ Bool.false))
noncomputable def zkd (n_ : Int) (low : Int) (q2v : Int) : Option (Bool) := zk1 n_ low q2v (fun c0_ => some c0_)
theorem zsg {R R' : Type} (o : Option R → Option R') (h0 : o none = none) (n_ : Int) (low : Int) (q2v : Int) (k_ : Bool → Option R) : zk1 n_ low q2v (fun c0_ => o (k_ c0_)) = o (zk1 n_ low q2v k_) := by
  unfold zk1
  repeat (first | refine grd_out h0 ?_ | refine br_out ?_ ?_ | rfl | exact h0.symm)
noncomputable def zmj (n_ : Int) (low : Int) (q2v : Int) : Bool := (zkd n_ low q2v).isSome
noncomputable def zmg (n_ : Int) (low : Int) (q2v : Int) : Bool := ((zkd n_ low q2v).getD default)
theorem zte {n_ : Int} {low : Int} {q2v : Int} {r : Bool} (h : zkd n_ low q2v = some r) : zmj n_ low q2v = true ∧ zmg n_ low q2v = r := by
  unfold zmj zmg
  rw [h]
  exact ⟨rfl, rfl⟩
noncomputable def zgu {R : Type} (q11 : Nat) (q1r : List Nat) (q1c : Nat) (q25 : List Nat) (q1b : Nat) (q26 : List Nat) (k_ : Nat → Nat → Nat → (List Nat) → (List Nat) → (List Nat) → Option R) : Option R := (grd (okA2 0 q11 4 (nF (pF q1r 0 (muN q11 1))) (nF []) 1) (grd (okA2 0 q1c 4 (nF (pF q25 0 (muN q1c 1))) (nF []) 1) (grd (okA2 0 q1b 4 (nF (pF q26 0 (muN q1b 1))) (nF []) 1) (k_ (adN 0 q11) (adN 0 q1c) (adN 0 q1b) (aF [] (pF q1r 0 (muN q11 1))) (aF [] (pF q25 0 (muN q1c 1))) (aF [] (pF q26 0 (muN q1b 1)))))))
noncomputable def z9q (q11 : Nat) (q1r : List Nat) (q1c : Nat) (q25 : List Nat) (q1b : Nat) (q26 : List Nat) : Option (Nat × Nat × Nat × (List Nat) × (List Nat) × (List Nat)) := zgu q11 q1r q1c q25 q1b q26 (fun c0_ c1_ c2_ c3_ c4_ c5_ => some (c0_, c1_, c2_, c3_, c4_, c5_))
theorem zrv {R R' : Type} (o : Option R → Option R') (h0 : o none = none) (q11 : Nat) (q1r : List Nat) (q1c : Nat) (q25 : List Nat) (q1b : Nat) (q26 : List Nat) (k_ : Nat → Nat → Nat → (List Nat) → (List Nat) → (List Nat) → Option R) : zgu q11 q1r q1c q25 q1b q26 (fun c0_ c1_ c2_ c3_ c4_ c5_ => o (k_ c0_ c1_ c2_ c3_ c4_ c5_)) = o (zgu q11 q1r q1c q25 q1b q26 k_) := by
  unfold zgu
  repeat (first | refine grd_out h0 ?_ | refine br_out ?_ ?_ | rfl | exact h0.symm)
noncomputable def zmd (q11 : Nat) (q1r : List Nat) (q1c : Nat) (q25 : List Nat) (q1b : Nat) (q26 : List Nat) : Bool := (z9q q11 q1r q1c q25 q1b q26).isSome
noncomputable def zm4 (q11 : Nat) (q1r : List Nat) (q1c : Nat) (q25 : List Nat) (q1b : Nat) (q26 : List Nat) : Nat := ((z9q q11 q1r q1c q25 q1b q26).getD default).1
noncomputable def zm0 (q11 : Nat) (q1r : List Nat) (q1c : Nat) (q25 : List Nat) (q1b : Nat) (q26 : List Nat) : Nat := ((z9q q11 q1r q1c q25 q1b q26).getD default).2.1
noncomputable def zm3 (q11 : Nat) (q1r : List Nat) (q1c : Nat) (q25 : List Nat) (q1b : Nat) (q26 : List Nat) : Nat := ((z9q q11 q1r q1c q25 q1b q26).getD default).2.2.1
noncomputable def zm2 (q11 : Nat) (q1r : List Nat) (q1c : Nat) (q25 : List Nat) (q1b : Nat) (q26 : List Nat) : List Nat := ((z9q q11 q1r q1c q25 q1b q26).getD default).2.2.2.1
noncomputable def zm5 (q11 : Nat) (q1r : List Nat) (q1c : Nat) (q25 : List Nat) (q1b : Nat) (q26 : List Nat) : List Nat := ((z9q q11 q1r q1c q25 q1b q26).getD default).2.2.2.2.1
noncomputable def zlz (q11 : Nat) (q1r : List Nat) (q1c : Nat) (q25 : List Nat) (q1b : Nat) (q26 : List Nat) : List Nat := ((z9q q11 q1r q1c q25 q1b q26).getD default).2.2.2.2.2
theorem zta {q11 : Nat} {q1r : List Nat} {q1c : Nat} {q25 : List Nat} {q1b : Nat} {q26 : List Nat} {r : Nat × Nat × Nat × (List Nat) × (List Nat) × (List Nat)} (h : z9q q11 q1r q1c q25 q1b q26 = some r) : zmd q11 q1r q1c q25 q1b q26 = true ∧ zm4 q11 q1r q1c q25 q1b q26 = r.1 ∧ zm0 q11 q1r q1c q25 q1b q26 = r.2.1 ∧ zm3 q11 q1r q1c q25 q1b q26 = r.2.2.1 ∧ zm2 q11 q1r q1c q25 q1b q26 = r.2.2.2.1 ∧ zm5 q11 q1r q1c q25 q1b q26 = r.2.2.2.2.1 ∧ zlz q11 q1r q1c q25 q1b q26 = r.2.2.2.2.2 := by
  unfold zmd zm4 zm0 zm3 zm2 zm5 zlz
  rw [h]
  exact ⟨rfl, rfl, rfl, rfl, rfl, rfl, rfl⟩
noncomputable def zgs {R : Type} (n_ : Int) (low : Int) (q2v : Int) (k_ : Bool → Option R) : Option R := (br (leI low n_) (k_ (leI n_ q2v)) (k_ Bool.false))
noncomputable def zgt (n_ : Int) (low : Int) (q2v : Int) : Option (Bool) := zgs n_ low q2v (fun c0_ => some c0_)
theorem zrt {R R' : Type} (o : Option R → Option R') (h0 : o none = none) (n_ : Int) (low : Int) (q2v : Int) (k_ : Bool → Option R) : zgs n_ low q2v (fun c0_ => o (k_ c0_)) = o (zgs n_ low q2v k_) := by
  unfold zgs
  repeat (first | refine grd_out h0 ?_ | refine br_out ?_ ?_ | rfl | exact h0.symm)
noncomputable def zme (n_ : Int) (low : Int) (q2v : Int) : Bool := (zgt n_ low q2v).isSome
noncomputable def zm1 (n_ : Int) (low : Int) (q2v : Int) : Bool := ((zgt n_ low q2v).getD default)
theorem zt5 {n_ : Int} {low : Int} {q2v : Int} {r : Bool} (h : zgt n_ low q2v = some r) : zme n_ low q2v = true ∧ zm1 n_ low q2v = r := by
  unfold zme zm1
  rw [h]
  exact ⟨rfl, rfl⟩
noncomputable def zd1 {R : Type} (a_n : Nat) (a : List Nat) (q2c : Int) (k_ : Int → Option R) : Option R := (br (ltI (subI IntKind.i64 q2c (Int.ofNat a_n)) 0) (k_ (Int.negSucc 0)) (k_ (subI IntKind.i64 q2c (Int.ofNat a_n))))
noncomputable def zd0 (a_n : Nat) (a : List Nat) (q2c : Int) : Option (Int) := zd1 a_n a q2c (fun c0_ => some c0_)
theorem zpo {R R' : Type} (o : Option R → Option R') (h0 : o none = none) (a_n : Nat) (a : List Nat) (q2c : Int) (k_ : Int → Option R) : zd1 a_n a q2c (fun c0_ => o (k_ c0_)) = o (zd1 a_n a q2c k_) := by
  unfold zd1
  repeat (first | refine grd_out h0 ?_ | refine br_out ?_ ?_ | rfl | exact h0.symm)
noncomputable def zjl (a_n : Nat) (a : List Nat) (q2c : Int) : Bool := (zd0 a_n a q2c).isSome
noncomputable def ze6 (a_n : Nat) (a : List Nat) (q2c : Int) : Int := ((zd0 a_n a q2c).getD default)
theorem zra {a_n : Nat} {a : List Nat} {q2c : Int} {r : Int} (h : zd0 a_n a q2c = some r) : zjl a_n a q2c = true ∧ ze6 a_n a q2c = r := by
  unfold zjl ze6
  rw [h]
  exact ⟨rfl, rfl⟩
noncomputable def ze9 {R : Type} (x : Nat) (low : Nat) (q2v : Nat) (k_ : Bool → Option R) : Option R := (br (fcmp BinOp.geq FloatKind.f32 x low) (k_ (fcmp BinOp.leq FloatKind.f32 x q2v)) (k_ Bool.false))
noncomputable def zeb (x : Nat) (low : Nat) (q2v : Nat) : Option (Bool) := ze9 x low q2v (fun c0_ => some c0_)
theorem zqx {R R' : Type} (o : Option R → Option R') (h0 : o none = none) (x : Nat) (low : Nat) (q2v : Nat) (k_ : Bool → Option R) : ze9 x low q2v (fun c0_ => o (k_ c0_)) = o (ze9 x low q2v k_) := by
  unfold ze9
  repeat (first | refine grd_out h0 ?_ | refine br_out ?_ ?_ | rfl | exact h0.symm)
noncomputable def zlk (x : Nat) (low : Nat) (q2v : Nat) : Bool := (zeb x low q2v).isSome
noncomputable def zl2 (x : Nat) (low : Nat) (q2v : Nat) : Bool := ((zeb x low q2v).getD default)
theorem zsn {x : Nat} {low : Nat} {q2v : Nat} {r : Bool} (h : zeb x low q2v = some r) : zlk x low q2v = true ∧ zl2 x low q2v = r := by
  unfold zlk zl2
  rw [h]
  exact ⟨rfl, rfl⟩
noncomputable def z9g {R : Type} (s_n : Nat) (s : List Nat) (k_ : Nat → (List Nat) → Option R) : Option R := (unk (okZ s_n) (k_ 0 []) (grd (okA2 0 s_n 4 (nF (pF s 0 (muN s_n 1))) (nF []) 1) (k_ (adN 0 s_n) (aF [] (pF s 0 (muN s_n 1))))))
noncomputable def z88 (s_n : Nat) (s : List Nat) : Option (Nat × (List Nat)) := z9g s_n s (fun c0_ c1_ => some (c0_, c1_))
theorem zmx {R R' : Type} (o : Option R → Option R') (h0 : o none = none) (hi : ∀ a b, o a = o b → a = b) (s_n : Nat) (s : List Nat) (k_ : Nat → (List Nat) → Option R) : z9g s_n s (fun c0_ c1_ => o (k_ c0_ c1_)) = o (z9g s_n s k_) := by
  unfold z9g
  repeat (first | refine unk_out h0 hi ?_ ?_ | refine grd_out h0 ?_ | refine br_out ?_ ?_ | rfl | exact h0.symm)
noncomputable def z9d (s_n : Nat) (s : List Nat) : Bool := (z88 s_n s).isSome
noncomputable def z99 (s_n : Nat) (s : List Nat) : Nat := ((z88 s_n s).getD default).1
noncomputable def z9c (s_n : Nat) (s : List Nat) : List Nat := ((z88 s_n s).getD default).2
theorem zfj {s_n : Nat} {s : List Nat} {r : Nat × (List Nat)} (h : z88 s_n s = some r) : z9d s_n s = true ∧ z99 s_n s = r.1 ∧ z9c s_n s = r.2 := by
  unfold z9d z99 z9c
  rw [h]
  exact ⟨rfl, rfl, rfl⟩
noncomputable def z5p {R : Type} (s_n : Nat) (s : List Nat) (k_ : Nat → (List Nat) → Option R) : Option R := (unk (okZ s_n) (k_ 0 []) (grd (okA2 0 s_n 12 (nF (pF s 0 (muN s_n 3))) (nF []) 3) (k_ (adN 0 s_n) (aF [] (pF s 0 (muN s_n 3))))))
noncomputable def z55 (s_n : Nat) (s : List Nat) : Option (Nat × (List Nat)) := z5p s_n s (fun c0_ c1_ => some (c0_, c1_))
theorem zhn {R R' : Type} (o : Option R → Option R') (h0 : o none = none) (hi : ∀ a b, o a = o b → a = b) (s_n : Nat) (s : List Nat) (k_ : Nat → (List Nat) → Option R) : z5p s_n s (fun c0_ c1_ => o (k_ c0_ c1_)) = o (z5p s_n s k_) := by
  unfold z5p
  repeat (first | refine unk_out h0 hi ?_ ?_ | refine grd_out h0 ?_ | refine br_out ?_ ?_ | rfl | exact h0.symm)
noncomputable def z7n (s_n : Nat) (s : List Nat) : Bool := (z55 s_n s).isSome
noncomputable def z7d (s_n : Nat) (s : List Nat) : Nat := ((z55 s_n s).getD default).1
noncomputable def z7c (s_n : Nat) (s : List Nat) : List Nat := ((z55 s_n s).getD default).2
theorem zk0 {s_n : Nat} {s : List Nat} {r : Nat × (List Nat)} (h : z55 s_n s = some r) : z7n s_n s = true ∧ z7d s_n s = r.1 ∧ z7c s_n s = r.2 := by
  unfold z7n z7d z7c
  rw [h]
  exact ⟨rfl, rfl, rfl⟩
noncomputable def zdr {R : Type} (q0t : Nat) (q0z : List Nat) (q0v : Nat) (q15 : List Nat) (q0x : Nat) (q18 : List Nat) (q2c : Int) (k_ : Int → Option R) : Option R := (grd (zd8 q0t (pF q0z 0 (muN q0t 1)) q2c) (br (ltI (z5m q0t (pF q0z 0 (muN q0t 1)) q2c) 0) (k_ (Int.negSucc 0)) (grd (zd8 q0v (pF q15 0 (muN q0v 1)) (z5m q0t (pF q0z 0 (muN q0t 1)) q2c)) (br (ltI (z5m q0v (pF q15 0 (muN q0v 1)) (z5m q0t (pF q0z 0 (muN q0t 1)) q2c)) 0) (k_ (Int.negSucc 0)) (grd (zd8 q0x (pF q18 0 (muN q0x 1)) (z5m q0v (pF q15 0 (muN q0v 1)) (z5m q0t (pF q0z 0 (muN q0t 1)) q2c))) (br (ltI (z5m q0x (pF q18 0 (muN q0x 1)) (z5m q0v (pF q15 0 (muN q0v 1)) (z5m q0t (pF q0z 0 (muN q0t 1)) q2c))) 0) (k_ (Int.negSucc 0)) (k_ (z5m q0x (pF q18 0 (muN q0x 1)) (z5m q0v (pF q15 0 (muN q0v 1)) (z5m q0t (pF q0z 0 (muN q0t 1)) q2c))))))))))
noncomputable def ze1 (q0t : Nat) (q0z : List Nat) (q0v : Nat) (q15 : List Nat) (q0x : Nat) (q18 : List Nat) (q2c : Int) : Option (Int) := zdr q0t q0z q0v q15 q0x q18 q2c (fun c0_ => some c0_)
theorem zq4 {R R' : Type} (o : Option R → Option R') (h0 : o none = none) (q0t : Nat) (q0z : List Nat) (q0v : Nat) (q15 : List Nat) (q0x : Nat) (q18 : List Nat) (q2c : Int) (k_ : Int → Option R) : zdr q0t q0z q0v q15 q0x q18 q2c (fun c0_ => o (k_ c0_)) = o (zdr q0t q0z q0v q15 q0x q18 q2c k_) := by
  unfold zdr
  repeat (first | refine grd_out h0 ?_ | refine br_out ?_ ?_ | rfl | exact h0.symm)
noncomputable def zkz (q0t : Nat) (q0z : List Nat) (q0v : Nat) (q15 : List Nat) (q0x : Nat) (q18 : List Nat) (q2c : Int) : Bool := (ze1 q0t q0z q0v q15 q0x q18 q2c).isSome
noncomputable def zam (q0t : Nat) (q0z : List Nat) (q0v : Nat) (q15 : List Nat) (q0x : Nat) (q18 : List Nat) (q2c : Int) : Int := ((ze1 q0t q0z q0v q15 q0x q18 q2c).getD default)
theorem zs8 {q0t : Nat} {q0z : List Nat} {q0v : Nat} {q15 : List Nat} {q0x : Nat} {q18 : List Nat} {q2c : Int} {r : Int} (h : ze1 q0t q0z q0v q15 q0x q18 q2c = some r) : zkz q0t q0z q0v q15 q0x q18 q2c = true ∧ zam q0t q0z q0v q15 q0x q18 q2c = r := by
  unfold zkz zam
  rw [h]
  exact ⟨rfl, rfl⟩
noncomputable def zci {R : Type} (q11 : Nat) (q1r : List Nat) (q1c : Nat) (q25 : List Nat) (q1b : Nat) (q26 : List Nat) (k_ : Nat → Nat → Nat → (List Nat) → (List Nat) → (List Nat) → Option R) : Option R := (grd (z9d q11 (pF q1r 0 (muN q11 1))) (grd (z9d q1c (pF q25 0 (muN q1c 1))) (grd (z9d q1b (pF q26 0 (muN q1b 1))) (k_ (z99 q11 (pF q1r 0 (muN q11 1))) (z99 q1c (pF q25 0 (muN q1c 1))) (z99 q1b (pF q26 0 (muN q1b 1))) (z9c q11 (pF q1r 0 (muN q11 1))) (z9c q1c (pF q25 0 (muN q1c 1))) (z9c q1b (pF q26 0 (muN q1b 1)))))))
noncomputable def z6y (q11 : Nat) (q1r : List Nat) (q1c : Nat) (q25 : List Nat) (q1b : Nat) (q26 : List Nat) : Option (Nat × Nat × Nat × (List Nat) × (List Nat) × (List Nat)) := zci q11 q1r q1c q25 q1b q26 (fun c0_ c1_ c2_ c3_ c4_ c5_ => some (c0_, c1_, c2_, c3_, c4_, c5_))
theorem zp4 {R R' : Type} (o : Option R → Option R') (h0 : o none = none) (q11 : Nat) (q1r : List Nat) (q1c : Nat) (q25 : List Nat) (q1b : Nat) (q26 : List Nat) (k_ : Nat → Nat → Nat → (List Nat) → (List Nat) → (List Nat) → Option R) : zci q11 q1r q1c q25 q1b q26 (fun c0_ c1_ c2_ c3_ c4_ c5_ => o (k_ c0_ c1_ c2_ c3_ c4_ c5_)) = o (zci q11 q1r q1c q25 q1b q26 k_) := by
  unfold zci
  repeat (first | refine grd_out h0 ?_ | refine br_out ?_ ?_ | rfl | exact h0.symm)
noncomputable def zhd (q11 : Nat) (q1r : List Nat) (q1c : Nat) (q25 : List Nat) (q1b : Nat) (q26 : List Nat) : Bool := (z6y q11 q1r q1c q25 q1b q26).isSome
noncomputable def zg0 (q11 : Nat) (q1r : List Nat) (q1c : Nat) (q25 : List Nat) (q1b : Nat) (q26 : List Nat) : Nat := ((z6y q11 q1r q1c q25 q1b q26).getD default).1
noncomputable def zfr (q11 : Nat) (q1r : List Nat) (q1c : Nat) (q25 : List Nat) (q1b : Nat) (q26 : List Nat) : Nat := ((z6y q11 q1r q1c q25 q1b q26).getD default).2.1
noncomputable def zfs (q11 : Nat) (q1r : List Nat) (q1c : Nat) (q25 : List Nat) (q1b : Nat) (q26 : List Nat) : Nat := ((z6y q11 q1r q1c q25 q1b q26).getD default).2.2.1
noncomputable def zft (q11 : Nat) (q1r : List Nat) (q1c : Nat) (q25 : List Nat) (q1b : Nat) (q26 : List Nat) : List Nat := ((z6y q11 q1r q1c q25 q1b q26).getD default).2.2.2.1
noncomputable def zfz (q11 : Nat) (q1r : List Nat) (q1c : Nat) (q25 : List Nat) (q1b : Nat) (q26 : List Nat) : List Nat := ((z6y q11 q1r q1c q25 q1b q26).getD default).2.2.2.2.1
noncomputable def zfp (q11 : Nat) (q1r : List Nat) (q1c : Nat) (q25 : List Nat) (q1b : Nat) (q26 : List Nat) : List Nat := ((z6y q11 q1r q1c q25 q1b q26).getD default).2.2.2.2.2
theorem zqu {q11 : Nat} {q1r : List Nat} {q1c : Nat} {q25 : List Nat} {q1b : Nat} {q26 : List Nat} {r : Nat × Nat × Nat × (List Nat) × (List Nat) × (List Nat)} (h : z6y q11 q1r q1c q25 q1b q26 = some r) : zhd q11 q1r q1c q25 q1b q26 = true ∧ zg0 q11 q1r q1c q25 q1b q26 = r.1 ∧ zfr q11 q1r q1c q25 q1b q26 = r.2.1 ∧ zfs q11 q1r q1c q25 q1b q26 = r.2.2.1 ∧ zft q11 q1r q1c q25 q1b q26 = r.2.2.2.1 ∧ zfz q11 q1r q1c q25 q1b q26 = r.2.2.2.2.1 ∧ zfp q11 q1r q1c q25 q1b q26 = r.2.2.2.2.2 := by
  unfold zhd zg0 zfr zfs zft zfz zfp
  rw [h]
  exact ⟨rfl, rfl, rfl, rfl, rfl, rfl, rfl⟩
noncomputable def zgr {R : Type} (q08 : Nat) (q0e : List Nat) (q0b : Nat) (q0h : List Nat) (q0a : Nat) (q0g : List Nat) (q0f : Nat) (q0i : List Nat) (q0n : Int) (q0r : Nat) (q0s : Nat) (k_ : Nat → Nat → Nat → Nat → (List Nat) → (List Nat) → (List Nat) → (List Nat) → Option R) : Option R := (grd (zmd q08 (pF q0e 0 (muN q08 1)) q0b (pF q0h 0 (muN q0b 1)) q0a (pF q0g 0 (muN q0a 1))) (grd (okA2 0 q0f 12 (nF (pF q0i 0 (muN q0f 3))) (nF []) 3) (k_ (zm4 q08 (pF q0e 0 (muN q08 1)) q0b (pF q0h 0 (muN q0b 1)) q0a (pF q0g 0 (muN q0a 1))) (zm0 q08 (pF q0e 0 (muN q08 1)) q0b (pF q0h 0 (muN q0b 1)) q0a (pF q0g 0 (muN q0a 1))) (zm3 q08 (pF q0e 0 (muN q08 1)) q0b (pF q0h 0 (muN q0b 1)) q0a (pF q0g 0 (muN q0a 1))) (adN 0 q0f) (zm2 q08 (pF q0e 0 (muN q08 1)) q0b (pF q0h 0 (muN q0b 1)) q0a (pF q0g 0 (muN q0a 1))) (zm5 q08 (pF q0e 0 (muN q08 1)) q0b (pF q0h 0 (muN q0b 1)) q0a (pF q0g 0 (muN q0a 1))) (zlz q08 (pF q0e 0 (muN q08 1)) q0b (pF q0h 0 (muN q0b 1)) q0a (pF q0g 0 (muN q0a 1))) (aF [] (pF q0i 0 (muN q0f 3))))))
noncomputable def z8m (q08 : Nat) (q0e : List Nat) (q0b : Nat) (q0h : List Nat) (q0a : Nat) (q0g : List Nat) (q0f : Nat) (q0i : List Nat) (q0n : Int) (q0r : Nat) (q0s : Nat) : Option (Nat × Nat × Nat × Nat × (List Nat) × (List Nat) × (List Nat) × (List Nat)) := zgr q08 q0e q0b q0h q0a q0g q0f q0i q0n q0r q0s (fun c0_ c1_ c2_ c3_ c4_ c5_ c6_ c7_ => some (c0_, c1_, c2_, c3_, c4_, c5_, c6_, c7_))
theorem zs9 {R R' : Type} (o : Option R → Option R') (h0 : o none = none) (q08 : Nat) (q0e : List Nat) (q0b : Nat) (q0h : List Nat) (q0a : Nat) (q0g : List Nat) (q0f : Nat) (q0i : List Nat) (q0n : Int) (q0r : Nat) (q0s : Nat) (k_ : Nat → Nat → Nat → Nat → (List Nat) → (List Nat) → (List Nat) → (List Nat) → Option R) : zgr q08 q0e q0b q0h q0a q0g q0f q0i q0n q0r q0s (fun c0_ c1_ c2_ c3_ c4_ c5_ c6_ c7_ => o (k_ c0_ c1_ c2_ c3_ c4_ c5_ c6_ c7_)) = o (zgr q08 q0e q0b q0h q0a q0g q0f q0i q0n q0r q0s k_) := by
  unfold zgr
  repeat (first | refine grd_out h0 ?_ | refine br_out ?_ ?_ | rfl | exact h0.symm)
noncomputable def zmh (q08 : Nat) (q0e : List Nat) (q0b : Nat) (q0h : List Nat) (q0a : Nat) (q0g : List Nat) (q0f : Nat) (q0i : List Nat) (q0n : Int) (q0r : Nat) (q0s : Nat) : Bool := (z8m q08 q0e q0b q0h q0a q0g q0f q0i q0n q0r q0s).isSome
noncomputable def zcc (q08 : Nat) (q0e : List Nat) (q0b : Nat) (q0h : List Nat) (q0a : Nat) (q0g : List Nat) (q0f : Nat) (q0i : List Nat) (q0n : Int) (q0r : Nat) (q0s : Nat) : Nat := ((z8m q08 q0e q0b q0h q0a q0g q0f q0i q0n q0r q0s).getD default).1
noncomputable def zc4 (q08 : Nat) (q0e : List Nat) (q0b : Nat) (q0h : List Nat) (q0a : Nat) (q0g : List Nat) (q0f : Nat) (q0i : List Nat) (q0n : Int) (q0r : Nat) (q0s : Nat) : Nat := ((z8m q08 q0e q0b q0h q0a q0g q0f q0i q0n q0r q0s).getD default).2.1
noncomputable def zcb (q08 : Nat) (q0e : List Nat) (q0b : Nat) (q0h : List Nat) (q0a : Nat) (q0g : List Nat) (q0f : Nat) (q0i : List Nat) (q0n : Int) (q0r : Nat) (q0s : Nat) : Nat := ((z8m q08 q0e q0b q0h q0a q0g q0f q0i q0n q0r q0s).getD default).2.2.1
noncomputable def z6a (q08 : Nat) (q0e : List Nat) (q0b : Nat) (q0h : List Nat) (q0a : Nat) (q0g : List Nat) (q0f : Nat) (q0i : List Nat) (q0n : Int) (q0r : Nat) (q0s : Nat) : Nat := ((z8m q08 q0e q0b q0h q0a q0g q0f q0i q0n q0r q0s).getD default).2.2.2.1
noncomputable def zf7 (q08 : Nat) (q0e : List Nat) (q0b : Nat) (q0h : List Nat) (q0a : Nat) (q0g : List Nat) (q0f : Nat) (q0i : List Nat) (q0n : Int) (q0r : Nat) (q0s : Nat) : List Nat := ((z8m q08 q0e q0b q0h q0a q0g q0f q0i q0n q0r q0s).getD default).2.2.2.2.1
noncomputable def zf8 (q08 : Nat) (q0e : List Nat) (q0b : Nat) (q0h : List Nat) (q0a : Nat) (q0g : List Nat) (q0f : Nat) (q0i : List Nat) (q0n : Int) (q0r : Nat) (q0s : Nat) : List Nat := ((z8m q08 q0e q0b q0h q0a q0g q0f q0i q0n q0r q0s).getD default).2.2.2.2.2.1
noncomputable def zf2 (q08 : Nat) (q0e : List Nat) (q0b : Nat) (q0h : List Nat) (q0a : Nat) (q0g : List Nat) (q0f : Nat) (q0i : List Nat) (q0n : Int) (q0r : Nat) (q0s : Nat) : List Nat := ((z8m q08 q0e q0b q0h q0a q0g q0f q0i q0n q0r q0s).getD default).2.2.2.2.2.2.1
noncomputable def zdu (q08 : Nat) (q0e : List Nat) (q0b : Nat) (q0h : List Nat) (q0a : Nat) (q0g : List Nat) (q0f : Nat) (q0i : List Nat) (q0n : Int) (q0r : Nat) (q0s : Nat) : List Nat := ((z8m q08 q0e q0b q0h q0a q0g q0f q0i q0n q0r q0s).getD default).2.2.2.2.2.2.2
theorem zt9 {q08 : Nat} {q0e : List Nat} {q0b : Nat} {q0h : List Nat} {q0a : Nat} {q0g : List Nat} {q0f : Nat} {q0i : List Nat} {q0n : Int} {q0r : Nat} {q0s : Nat} {r : Nat × Nat × Nat × Nat × (List Nat) × (List Nat) × (List Nat) × (List Nat)} (h : z8m q08 q0e q0b q0h q0a q0g q0f q0i q0n q0r q0s = some r) : zmh q08 q0e q0b q0h q0a q0g q0f q0i q0n q0r q0s = true ∧ zcc q08 q0e q0b q0h q0a q0g q0f q0i q0n q0r q0s = r.1 ∧ zc4 q08 q0e q0b q0h q0a q0g q0f q0i q0n q0r q0s = r.2.1 ∧ zcb q08 q0e q0b q0h q0a q0g q0f q0i q0n q0r q0s = r.2.2.1 ∧ z6a q08 q0e q0b q0h q0a q0g q0f q0i q0n q0r q0s = r.2.2.2.1 ∧ zf7 q08 q0e q0b q0h q0a q0g q0f q0i q0n q0r q0s = r.2.2.2.2.1 ∧ zf8 q08 q0e q0b q0h q0a q0g q0f q0i q0n q0r q0s = r.2.2.2.2.2.1 ∧ zf2 q08 q0e q0b q0h q0a q0g q0f q0i q0n q0r q0s = r.2.2.2.2.2.2.1 ∧ zdu q08 q0e q0b q0h q0a q0g q0f q0i q0n q0r q0s = r.2.2.2.2.2.2.2 := by
  unfold zmh zcc zc4 zcb z6a zf7 zf8 zf2 zdu
  rw [h]
  exact ⟨rfl, rfl, rfl, rfl, rfl, rfl, rfl, rfl, rfl⟩
noncomputable def zed {R : Type} (x : Nat) (k_ : Bool → Option R) : Option R := (grd (z81 x) (br (z7p x) (k_ (fcmp BinOp.geq FloatKind.f32 x 0)) (k_ Bool.false)))
noncomputable def zee (x : Nat) : Option (Bool) := zed x (fun c0_ => some c0_)
theorem zr2 {R R' : Type} (o : Option R → Option R') (h0 : o none = none) (x : Nat) (k_ : Bool → Option R) : zed x (fun c0_ => o (k_ c0_)) = o (zed x k_) := by
  unfold zed
  repeat (first | refine grd_out h0 ?_ | refine br_out ?_ ?_ | rfl | exact h0.symm)
noncomputable def zas (x : Nat) : Bool := (zee x).isSome
noncomputable def zab (x : Nat) : Bool := ((zee x).getD default)
theorem znh {x : Nat} {r : Bool} (h : zee x = some r) : zas x = true ∧ zab x = r := by
  unfold zas zab
  rw [h]
  exact ⟨rfl, rfl⟩
noncomputable def zds {R : Type} (q2j : Nat) (q2p : Nat) (q2o : Nat) (q38 : Nat) (q3b : Nat) (q3c : Nat) (k_ : Bool → Option R) : Option R := (grd (z9h (fcvV FloatKind.f32 FloatKind.f64 q2j) (fcvV FloatKind.f32 FloatKind.f64 q38)) (br (bnot (z97 (fcvV FloatKind.f32 FloatKind.f64 q2j) (fcvV FloatKind.f32 FloatKind.f64 q38))) (k_ Bool.false) (grd (z9h (fcvV FloatKind.f32 FloatKind.f64 q2p) (fcvV FloatKind.f32 FloatKind.f64 q3b)) (br (bnot (z97 (fcvV FloatKind.f32 FloatKind.f64 q2p) (fcvV FloatKind.f32 FloatKind.f64 q3b))) (k_ Bool.false) (grd (z9h (fcvV FloatKind.f32 FloatKind.f64 q2o) (fcvV FloatKind.f32 FloatKind.f64 q3c)) (br (bnot (z97 (fcvV FloatKind.f32 FloatKind.f64 q2o) (fcvV FloatKind.f32 FloatKind.f64 q3c))) (k_ Bool.false) (k_ Bool.true)))))))
noncomputable def zdq (q2j : Nat) (q2p : Nat) (q2o : Nat) (q38 : Nat) (q3b : Nat) (q3c : Nat) : Option (Bool) := zds q2j q2p q2o q38 q3b q3c (fun c0_ => some c0_)
theorem zqe {R R' : Type} (o : Option R → Option R') (h0 : o none = none) (q2j : Nat) (q2p : Nat) (q2o : Nat) (q38 : Nat) (q3b : Nat) (q3c : Nat) (k_ : Bool → Option R) : zds q2j q2p q2o q38 q3b q3c (fun c0_ => o (k_ c0_)) = o (zds q2j q2p q2o q38 q3b q3c k_) := by
  unfold zds
  repeat (first | refine grd_out h0 ?_ | refine br_out ?_ ?_ | rfl | exact h0.symm)
noncomputable def zl6 (q2j : Nat) (q2p : Nat) (q2o : Nat) (q38 : Nat) (q3b : Nat) (q3c : Nat) : Bool := (zdq q2j q2p q2o q38 q3b q3c).isSome
noncomputable def zjn (q2j : Nat) (q2p : Nat) (q2o : Nat) (q38 : Nat) (q3b : Nat) (q3c : Nat) : Bool := ((zdq q2j q2p q2o q38 q3b q3c).getD default)
theorem zs6 {q2j : Nat} {q2p : Nat} {q2o : Nat} {q38 : Nat} {q3b : Nat} {q3c : Nat} {r : Bool} (h : zdq q2j q2p q2o q38 q3b q3c = some r) : zl6 q2j q2p q2o q38 q3b q3c = true ∧ zjn q2j q2p q2o q38 q3b q3c = r := by
  unfold zl6 zjn
  rw [h]
  exact ⟨rfl, rfl⟩
noncomputable def zf4 {R : Type} (x : Nat) (k_ : Bool → Option R) : Option R := (grd (za5 x) (br (z9i x) (k_ (fcmp BinOp.geq FloatKind.f32 x 0)) (k_ Bool.false)))
noncomputable def zf3 (x : Nat) : Option (Bool) := zf4 x (fun c0_ => some c0_)
theorem zrl {R R' : Type} (o : Option R → Option R') (h0 : o none = none) (x : Nat) (k_ : Bool → Option R) : zf4 x (fun c0_ => o (k_ c0_)) = o (zf4 x k_) := by
  unfold zf4
  repeat (first | refine grd_out h0 ?_ | refine br_out ?_ ?_ | rfl | exact h0.symm)
noncomputable def zka (x : Nat) : Bool := (zf3 x).isSome
noncomputable def zhe (x : Nat) : Bool := ((zf3 x).getD default)
theorem zod {x : Nat} {r : Bool} (h : zf3 x = some r) : zka x = true ∧ zhe x = r := by
  unfold zka zhe
  rw [h]
  exact ⟨rfl, rfl⟩
noncomputable def zeh {R : Type} (x : Nat) (k_ : Bool → Option R) : Option R := (grd (z81 x) (br (z7p x) (k_ (fcmp BinOp.gtr FloatKind.f32 x 0)) (k_ Bool.false)))
noncomputable def zec (x : Nat) : Option (Bool) := zeh x (fun c0_ => some c0_)
theorem zr6 {R R' : Type} (o : Option R → Option R') (h0 : o none = none) (x : Nat) (k_ : Bool → Option R) : zeh x (fun c0_ => o (k_ c0_)) = o (zeh x k_) := by
  unfold zeh
  repeat (first | refine grd_out h0 ?_ | refine br_out ?_ ?_ | rfl | exact h0.symm)
noncomputable def zlc (x : Nat) : Bool := (zec x).isSome
noncomputable def zl7 (x : Nat) : Bool := ((zec x).getD default)
theorem zsm {x : Nat} {r : Bool} (h : zec x = some r) : zlc x = true ∧ zl7 x = r := by
  unfold zlc zl7
  rw [h]
  exact ⟨rfl, rfl⟩
noncomputable def zce {R : Type} (x : Nat) (k_ : Bool → Option R) : Option R := (grd (za5 x) (k_ (bnot (z9i x))))
noncomputable def zc7 (x : Nat) : Option (Bool) := zce x (fun c0_ => some c0_)
theorem zoq {R R' : Type} (o : Option R → Option R') (h0 : o none = none) (x : Nat) (k_ : Bool → Option R) : zce x (fun c0_ => o (k_ c0_)) = o (zce x k_) := by
  unfold zce
  repeat (first | refine grd_out h0 ?_ | refine br_out ?_ ?_ | rfl | exact h0.symm)
noncomputable def zhp (x : Nat) : Bool := (zc7 x).isSome
noncomputable def zfx (x : Nat) : Bool := ((zc7 x).getD default)
theorem zqt {x : Nat} {r : Bool} (h : zc7 x = some r) : zhp x = true ∧ zfx x = r := by
  unfold zhp zfx
  rw [h]
  exact ⟨rfl, rfl⟩
noncomputable def zad {R : Type} (x : Nat) (k_ : Bool → Option R) : Option R := (grd (za5 x) (br (bnot (z9i x)) (k_ Bool.true) (k_ (fcmp BinOp.leq FloatKind.f32 x 0))))
noncomputable def zae (x : Nat) : Option (Bool) := zad x (fun c0_ => some c0_)
theorem znj {R R' : Type} (o : Option R → Option R') (h0 : o none = none) (x : Nat) (k_ : Bool → Option R) : zad x (fun c0_ => o (k_ c0_)) = o (zad x k_) := by
  unfold zad
  repeat (first | refine grd_out h0 ?_ | refine br_out ?_ ?_ | rfl | exact h0.symm)
noncomputable def zen (x : Nat) : Bool := (zae x).isSome
noncomputable def zej (x : Nat) : Bool := ((zae x).getD default)
theorem zpd {x : Nat} {r : Bool} (h : zae x = some r) : zen x = true ∧ zej x = r := by
  unfold zen zej
  rw [h]
  exact ⟨rfl, rfl⟩
noncomputable def z7q {R : Type} (an : Nat) (q2l : Nat) (b0 : List Nat) (i : Int) (b1 : List Nat) (kn_ : Int → (List Nat) → Option R) (k0_ : Int → Bool → (List Nat) → Option R) : Option R := (br (ltI i (Int.ofNat an)) (grd (okIx i an) (grd (okIx i q2l) (kn_ (addI IntKind.i64 i 1) (sF b1 (ixO 0 i 1) (gF b0 (ixO 0 i 1)))))) (k0_ i (ltI i (Int.ofNat an)) b1))
theorem zo2 {R R' : Type} (o : Option R → Option R') (h0 : o none = none) (an : Nat) (q2l : Nat) (b0 : List Nat) (i : Int) (b1 : List Nat) (kn_ : Int → (List Nat) → Option R) (k0_ : Int → Bool → (List Nat) → Option R) : z7q an q2l b0 i b1 (fun i' b1' => o (kn_ i' b1')) (fun c0_ c1_ c2_ => o (k0_ c0_ c1_ c2_)) = o (z7q an q2l b0 i b1 kn_ k0_) := by
  unfold z7q
  repeat (first | refine grd_out h0 ?_ | refine br_out ?_ ?_ | rfl | exact h0.symm)
noncomputable def z63 (an : Nat) (q2l : Nat) (b0 : List Nat) : Nat → Int → (List Nat) → Option ((Int × Bool × (List Nat)))
  | 0, _, _ => none
  | n + 1, i, b1 => z7q an q2l b0  i b1  (fun i' b1' => z63 an q2l b0 n i' b1') (fun c0_ c1_ c2_ => some (c0_, c1_, c2_))
theorem zli (an : Nat) (q2l : Nat) (b0 : List Nat) (n : Nat) (i : Int) (b1 : List Nat) : z63 an q2l b0 (n + 1) i b1 = z7q an q2l b0  i b1  (fun i' b1' => z63 an q2l b0 n i' b1') (fun c0_ c1_ c2_ => some (c0_, c1_, c2_)) := rfl
noncomputable def zcr (an : Nat) (q2l : Nat) (b0 : List Nat) (i : Int) (b1 : List Nat) : Bool := (z63 an q2l b0 big i b1).isSome
noncomputable def zga (an : Nat) (q2l : Nat) (b0 : List Nat) (i : Int) (b1 : List Nat) : Int := ((z63 an q2l b0 big i b1).getD default).1
noncomputable def zgg (an : Nat) (q2l : Nat) (b0 : List Nat) (i : Int) (b1 : List Nat) : Bool := ((z63 an q2l b0 big i b1).getD default).2.1
noncomputable def zak (an : Nat) (q2l : Nat) (b0 : List Nat) (i : Int) (b1 : List Nat) : List Nat := ((z63 an q2l b0 big i b1).getD default).2.2
theorem zoo {an : Nat} {q2l : Nat} {b0 : List Nat} {i : Int} {b1 : List Nat} {m : Nat} {r : Int × Bool × (List Nat)} (hm : m = big) (h : z63 an q2l b0 m i b1 = some r) : zcr an q2l b0 i b1 = true ∧ zga an q2l b0 i b1 = r.1 ∧ zgg an q2l b0 i b1 = r.2.1 ∧ zak an q2l b0 i b1 = r.2.2 := by
  subst hm
  unfold zcr zga zgg zak
  rw [h]
  exact ⟨rfl, rfl, rfl, rfl⟩
noncomputable def z6r {R : Type} (an : Nat) (b0 : List Nat) (k : Int) (i : Int) (kn_ : Int → Int → Option R) (k0_ : Unit → Option R) (k1_ : Int → Int → Bool → Option R) : Option R := (br (ltI i (Int.ofNat an)) (grd (okIx i an) (br (fcmp BinOp.neq FloatKind.f32 (gF b0 (ixO 0 i 3)) (fOI FloatKind.f32 k)) (k0_ ()) (grd (okIx i an) (br (fcmp BinOp.neq FloatKind.f32 (gF b0 (Nat.succ (ixO 0 i 3))) (fOI FloatKind.f32 (addI IntKind.i64 k 1))) (k0_ ()) (grd (okIx i an) (br (fcmp BinOp.neq FloatKind.f32 (gF b0 (Nat.succ (Nat.succ (ixO 0 i 3)))) (fOI FloatKind.f32 (addI IntKind.i64 (addI IntKind.i64 k 1) 1))) (k0_ ()) (kn_ (addI IntKind.i64 (addI IntKind.i64 (addI IntKind.i64 k 1) 1) 1) (addI IntKind.i64 i 1)))))))) (k1_ k i (ltI i (Int.ofNat an))))
theorem zn0 {R R' : Type} (o : Option R → Option R') (h0 : o none = none) (an : Nat) (b0 : List Nat) (k : Int) (i : Int) (kn_ : Int → Int → Option R) (k0_ : Unit → Option R) (k1_ : Int → Int → Bool → Option R) : z6r an b0 k i (fun k' i' => o (kn_ k' i')) (fun _ => o (k0_ ())) (fun c0_ c1_ c2_ => o (k1_ c0_ c1_ c2_)) = o (z6r an b0 k i kn_ k0_ k1_) := by
  unfold z6r
  repeat (first | refine grd_out h0 ?_ | refine br_out ?_ ?_ | rfl | exact h0.symm)
noncomputable def z4r (an : Nat) (b0 : List Nat) : Nat → Int → Int → Option ((Unit) ⊕ (Int × Int × Bool))
  | 0, _, _ => none
  | n + 1, k, i => z6r an b0  k i  (fun k' i' => z4r an b0 n k' i') (fun _ => some (Sum.inl ())) (fun c0_ c1_ c2_ => some (Sum.inr (c0_, c1_, c2_)))
theorem zku (an : Nat) (b0 : List Nat) (n : Nat) (k : Int) (i : Int) : z4r an b0 (n + 1) k i = z6r an b0  k i  (fun k' i' => z4r an b0 n k' i') (fun _ => some (Sum.inl ())) (fun c0_ c1_ c2_ => some (Sum.inr (c0_, c1_, c2_))) := rfl
noncomputable def ze4 (an : Nat) (b0 : List Nat) (k : Int) (i : Int) : Bool := (z4r an b0 big k i).isSome
noncomputable def zdl (an : Nat) (b0 : List Nat) (k : Int) (i : Int) : Bool := oL (z4r an b0 big k i)
noncomputable def zck (an : Nat) (b0 : List Nat) (k : Int) (i : Int) : Int := ((tR (z4r an b0 big k i)).getD default).1
noncomputable def zes (an : Nat) (b0 : List Nat) (k : Int) (i : Int) : Int := ((tR (z4r an b0 big k i)).getD default).2.1
noncomputable def zeo (an : Nat) (b0 : List Nat) (k : Int) (i : Int) : Bool := ((tR (z4r an b0 big k i)).getD default).2.2
theorem znv {an : Nat} {b0 : List Nat} {k : Int} {i : Int} {m : Nat} {r : Int × Int × Bool} (hm : m = big) (h : z4r an b0 m k i = some (Sum.inr r)) : ze4 an b0 k i = true ∧ zdl an b0 k i = false ∧ zck an b0 k i = r.1 ∧ zes an b0 k i = r.2.1 ∧ zeo an b0 k i = r.2.2 := by
  subst hm
  unfold ze4 zdl zck zes zeo
  rw [h]
  exact ⟨rfl, rfl, rfl, rfl, rfl⟩
noncomputable def z6t {R : Type} (an : Nat) (b0 : List Nat) (k : Int) (i : Int) (kn_ : Int → Int → Option R) (k0_ : Unit → Option R) (k1_ : Int → Int → Bool → Option R) : Option R := (br (ltI i (Int.ofNat an)) (grd (okIx i an) (br (fcmp BinOp.neq FloatKind.f32 (gF b0 (ixO 0 i 1)) (fOI FloatKind.f32 k)) (k0_ ()) (kn_ (addI IntKind.i64 k 1) (addI IntKind.i64 i 1)))) (k1_ k i (ltI i (Int.ofNat an))))
theorem zmz {R R' : Type} (o : Option R → Option R') (h0 : o none = none) (an : Nat) (b0 : List Nat) (k : Int) (i : Int) (kn_ : Int → Int → Option R) (k0_ : Unit → Option R) (k1_ : Int → Int → Bool → Option R) : z6t an b0 k i (fun k' i' => o (kn_ k' i')) (fun _ => o (k0_ ())) (fun c0_ c1_ c2_ => o (k1_ c0_ c1_ c2_)) = o (z6t an b0 k i kn_ k0_ k1_) := by
  unfold z6t
  repeat (first | refine grd_out h0 ?_ | refine br_out ?_ ?_ | rfl | exact h0.symm)
noncomputable def z4t (an : Nat) (b0 : List Nat) : Nat → Int → Int → Option ((Unit) ⊕ (Int × Int × Bool))
  | 0, _, _ => none
  | n + 1, k, i => z6t an b0  k i  (fun k' i' => z4t an b0 n k' i') (fun _ => some (Sum.inl ())) (fun c0_ c1_ c2_ => some (Sum.inr (c0_, c1_, c2_)))
theorem zkv (an : Nat) (b0 : List Nat) (n : Nat) (k : Int) (i : Int) : z4t an b0 (n + 1) k i = z6t an b0  k i  (fun k' i' => z4t an b0 n k' i') (fun _ => some (Sum.inl ())) (fun c0_ c1_ c2_ => some (Sum.inr (c0_, c1_, c2_))) := rfl
noncomputable def ze5 (an : Nat) (b0 : List Nat) (k : Int) (i : Int) : Bool := (z4t an b0 big k i).isSome
noncomputable def zdk (an : Nat) (b0 : List Nat) (k : Int) (i : Int) : Bool := oL (z4t an b0 big k i)
noncomputable def zcj (an : Nat) (b0 : List Nat) (k : Int) (i : Int) : Int := ((tR (z4t an b0 big k i)).getD default).1
noncomputable def zew (an : Nat) (b0 : List Nat) (k : Int) (i : Int) : Int := ((tR (z4t an b0 big k i)).getD default).2.1
noncomputable def zem (an : Nat) (b0 : List Nat) (k : Int) (i : Int) : Bool := ((tR (z4t an b0 big k i)).getD default).2.2
theorem znz {an : Nat} {b0 : List Nat} {k : Int} {i : Int} {m : Nat} {r : Int × Int × Bool} (hm : m = big) (h : z4t an b0 m k i = some (Sum.inr r)) : ze5 an b0 k i = true ∧ zdk an b0 k i = false ∧ zcj an b0 k i = r.1 ∧ zew an b0 k i = r.2.1 ∧ zem an b0 k i = r.2.2 := by
  subst hm
  unfold ze5 zdk zcj zew zem
  rw [h]
  exact ⟨rfl, rfl, rfl, rfl, rfl⟩
noncomputable def zfa {R : Type} (q0j : Nat) (q0m : List Nat) (q0l : Nat) (q0o : List Nat) (q0k : Nat) (q0p : List Nat) (q0q : Nat) (q0u : List Nat) (q16 : Int) (q23 : Nat) (q24 : Nat) (q2c : Int) (k_ : Int → Option R) : Option R := (grd (zkz q0j (pF q0m 0 (muN q0j 1)) q0l (pF q0o 0 (muN q0l 1)) q0k (pF q0p 0 (muN q0k 1)) q2c) (br (ltI (zam q0j (pF q0m 0 (muN q0j 1)) q0l (pF q0o 0 (muN q0l 1)) q0k (pF q0p 0 (muN q0k 1)) q2c) 0) (k_ (Int.negSucc 0)) (grd (zjl q0q (pF q0u 0 (muN q0q 3)) (zam q0j (pF q0m 0 (muN q0j 1)) q0l (pF q0o 0 (muN q0l 1)) q0k (pF q0p 0 (muN q0k 1)) q2c)) (br (ltI (ze6 q0q (pF q0u 0 (muN q0q 3)) (zam q0j (pF q0m 0 (muN q0j 1)) q0l (pF q0o 0 (muN q0l 1)) q0k (pF q0p 0 (muN q0k 1)) q2c)) 0) (k_ (Int.negSucc 0)) (k_ (ze6 q0q (pF q0u 0 (muN q0q 3)) (zam q0j (pF q0m 0 (muN q0j 1)) q0l (pF q0o 0 (muN q0l 1)) q0k (pF q0p 0 (muN q0k 1)) q2c)))))))
noncomputable def zf6 (q0j : Nat) (q0m : List Nat) (q0l : Nat) (q0o : List Nat) (q0k : Nat) (q0p : List Nat) (q0q : Nat) (q0u : List Nat) (q16 : Int) (q23 : Nat) (q24 : Nat) (q2c : Int) : Option (Int) := zfa q0j q0m q0l q0o q0k q0p q0q q0u q16 q23 q24 q2c (fun c0_ => some c0_)
theorem zri {R R' : Type} (o : Option R → Option R') (h0 : o none = none) (q0j : Nat) (q0m : List Nat) (q0l : Nat) (q0o : List Nat) (q0k : Nat) (q0p : List Nat) (q0q : Nat) (q0u : List Nat) (q16 : Int) (q23 : Nat) (q24 : Nat) (q2c : Int) (k_ : Int → Option R) : zfa q0j q0m q0l q0o q0k q0p q0q q0u q16 q23 q24 q2c (fun c0_ => o (k_ c0_)) = o (zfa q0j q0m q0l q0o q0k q0p q0q q0u q16 q23 q24 q2c k_) := by
  unfold zfa
  repeat (first | refine grd_out h0 ?_ | refine br_out ?_ ?_ | rfl | exact h0.symm)
noncomputable def zkf (q0j : Nat) (q0m : List Nat) (q0l : Nat) (q0o : List Nat) (q0k : Nat) (q0p : List Nat) (q0q : Nat) (q0u : List Nat) (q16 : Int) (q23 : Nat) (q24 : Nat) (q2c : Int) : Bool := (zf6 q0j q0m q0l q0o q0k q0p q0q q0u q16 q23 q24 q2c).isSome
noncomputable def zi5 (q0j : Nat) (q0m : List Nat) (q0l : Nat) (q0o : List Nat) (q0k : Nat) (q0p : List Nat) (q0q : Nat) (q0u : List Nat) (q16 : Int) (q23 : Nat) (q24 : Nat) (q2c : Int) : Int := ((zf6 q0j q0m q0l q0o q0k q0p q0q q0u q16 q23 q24 q2c).getD default)
theorem zsw {q0j : Nat} {q0m : List Nat} {q0l : Nat} {q0o : List Nat} {q0k : Nat} {q0p : List Nat} {q0q : Nat} {q0u : List Nat} {q16 : Int} {q23 : Nat} {q24 : Nat} {q2c : Int} {r : Int} (h : zf6 q0j q0m q0l q0o q0k q0p q0q q0u q16 q23 q24 q2c = some r) : zkf q0j q0m q0l q0o q0k q0p q0q q0u q16 q23 q24 q2c = true ∧ zi5 q0j q0m q0l q0o q0k q0p q0q q0u q16 q23 q24 q2c = r := by
  unfold zkf zi5
  rw [h]
  exact ⟨rfl, rfl⟩
noncomputable def zd7 {R : Type} (a_n : Nat) (a : List Nat) (k_ : Nat → (List Nat) → Option R) : Option R := (grd (okMk (Int.ofNat a_n) (Int.ofNat a_n) 4) (grd (zcr a_n (toN (Int.ofNat a_n)) a 0 (rF (muN (toN (Int.ofNat a_n)) 1))) (k_ (toN (Int.ofNat a_n)) (zak a_n (toN (Int.ofNat a_n)) a 0 (rF (muN (toN (Int.ofNat a_n)) 1))))))
noncomputable def zan (a_n : Nat) (a : List Nat) : Option (Nat × (List Nat)) := zd7 a_n a (fun c0_ c1_ => some (c0_, c1_))
theorem zpc {R R' : Type} (o : Option R → Option R') (h0 : o none = none) (a_n : Nat) (a : List Nat) (k_ : Nat → (List Nat) → Option R) : zd7 a_n a (fun c0_ c1_ => o (k_ c0_ c1_)) = o (zd7 a_n a k_) := by
  unfold zd7
  repeat (first | refine grd_out h0 ?_ | refine br_out ?_ ?_ | rfl | exact h0.symm)
noncomputable def zcz (a_n : Nat) (a : List Nat) : Bool := (zan a_n a).isSome
noncomputable def zc8 (a_n : Nat) (a : List Nat) : Nat := ((zan a_n a).getD default).1
noncomputable def zch (a_n : Nat) (a : List Nat) : List Nat := ((zan a_n a).getD default).2
theorem zlp {a_n : Nat} {a : List Nat} {r : Nat × (List Nat)} (h : zan a_n a = some r) : zcz a_n a = true ∧ zc8 a_n a = r.1 ∧ zch a_n a = r.2 := by
  unfold zcz zc8 zch
  rw [h]
  exact ⟨rfl, rfl, rfl⟩
noncomputable def zb0 {R : Type} (a_n : Nat) (a : List Nat) (k : Int) (k_ : Int → Option R) : Option R := (grd (ze4 a_n a k 0) (br (zdl a_n a k 0) (k_ (Int.negSucc 0)) (k_ (zck a_n a k 0))))
noncomputable def zb1 (a_n : Nat) (a : List Nat) (k : Int) : Option (Int) := zb0 a_n a k (fun c0_ => some c0_)
theorem zob {R R' : Type} (o : Option R → Option R') (h0 : o none = none) (a_n : Nat) (a : List Nat) (k : Int) (k_ : Int → Option R) : zb0 a_n a k (fun c0_ => o (k_ c0_)) = o (zb0 a_n a k k_) := by
  unfold zb0
  repeat (first | refine grd_out h0 ?_ | refine br_out ?_ ?_ | rfl | exact h0.symm)
noncomputable def zfv (a_n : Nat) (a : List Nat) (k : Int) : Bool := (zb1 a_n a k).isSome
noncomputable def zcw (a_n : Nat) (a : List Nat) (k : Int) : Int := ((zb1 a_n a k).getD default)
theorem zpy {a_n : Nat} {a : List Nat} {k : Int} {r : Int} (h : zb1 a_n a k = some r) : zfv a_n a k = true ∧ zcw a_n a k = r := by
  unfold zfv zcw
  rw [h]
  exact ⟨rfl, rfl⟩
noncomputable def zay {R : Type} (a_n : Nat) (a : List Nat) (k : Int) (k_ : Int → Option R) : Option R := (grd (ze5 a_n a k 0) (br (zdk a_n a k 0) (k_ (Int.negSucc 0)) (k_ (zcj a_n a k 0))))
noncomputable def zaz (a_n : Nat) (a : List Nat) (k : Int) : Option (Int) := zay a_n a k (fun c0_ => some c0_)
theorem zo7 {R R' : Type} (o : Option R → Option R') (h0 : o none = none) (a_n : Nat) (a : List Nat) (k : Int) (k_ : Int → Option R) : zay a_n a k (fun c0_ => o (k_ c0_)) = o (zay a_n a k k_) := by
  unfold zay
  repeat (first | refine grd_out h0 ?_ | refine br_out ?_ ?_ | rfl | exact h0.symm)
noncomputable def zb3 (a_n : Nat) (a : List Nat) (k : Int) : Bool := (zaz a_n a k).isSome
noncomputable def z59 (a_n : Nat) (a : List Nat) (k : Int) : Int := ((zaz a_n a k).getD default)
theorem zl0 {a_n : Nat} {a : List Nat} {k : Int} {r : Int} (h : zaz a_n a k = some r) : zb3 a_n a k = true ∧ z59 a_n a k = r := by
  unfold zb3 z59
  rw [h]
  exact ⟨rfl, rfl⟩
noncomputable def zdx {R : Type} (q08 : Nat) (q0e : List Nat) (q0b : Nat) (q0h : List Nat) (q0a : Nat) (q0g : List Nat) (q0f : Nat) (q0i : List Nat) (q0n : Int) (q0r : Nat) (q0s : Nat) (k_ : Nat → Nat → Nat → Nat → (List Nat) → (List Nat) → (List Nat) → (List Nat) → Option R) : Option R := (grd (zhd q08 (pF q0e 0 (muN q08 1)) q0b (pF q0h 0 (muN q0b 1)) q0a (pF q0g 0 (muN q0a 1))) (grd (z7n q0f (pF q0i 0 (muN q0f 3))) (k_ (zg0 q08 (pF q0e 0 (muN q08 1)) q0b (pF q0h 0 (muN q0b 1)) q0a (pF q0g 0 (muN q0a 1))) (zfr q08 (pF q0e 0 (muN q08 1)) q0b (pF q0h 0 (muN q0b 1)) q0a (pF q0g 0 (muN q0a 1))) (zfs q08 (pF q0e 0 (muN q08 1)) q0b (pF q0h 0 (muN q0b 1)) q0a (pF q0g 0 (muN q0a 1))) (z7d q0f (pF q0i 0 (muN q0f 3))) (zft q08 (pF q0e 0 (muN q08 1)) q0b (pF q0h 0 (muN q0b 1)) q0a (pF q0g 0 (muN q0a 1))) (zfz q08 (pF q0e 0 (muN q08 1)) q0b (pF q0h 0 (muN q0b 1)) q0a (pF q0g 0 (muN q0a 1))) (zfp q08 (pF q0e 0 (muN q08 1)) q0b (pF q0h 0 (muN q0b 1)) q0a (pF q0g 0 (muN q0a 1))) (z7c q0f (pF q0i 0 (muN q0f 3))))))
noncomputable def z6p (q08 : Nat) (q0e : List Nat) (q0b : Nat) (q0h : List Nat) (q0a : Nat) (q0g : List Nat) (q0f : Nat) (q0i : List Nat) (q0n : Int) (q0r : Nat) (q0s : Nat) : Option (Nat × Nat × Nat × Nat × (List Nat) × (List Nat) × (List Nat) × (List Nat)) := zdx q08 q0e q0b q0h q0a q0g q0f q0i q0n q0r q0s (fun c0_ c1_ c2_ c3_ c4_ c5_ c6_ c7_ => some (c0_, c1_, c2_, c3_, c4_, c5_, c6_, c7_))
theorem zqk {R R' : Type} (o : Option R → Option R') (h0 : o none = none) (q08 : Nat) (q0e : List Nat) (q0b : Nat) (q0h : List Nat) (q0a : Nat) (q0g : List Nat) (q0f : Nat) (q0i : List Nat) (q0n : Int) (q0r : Nat) (q0s : Nat) (k_ : Nat → Nat → Nat → Nat → (List Nat) → (List Nat) → (List Nat) → (List Nat) → Option R) : zdx q08 q0e q0b q0h q0a q0g q0f q0i q0n q0r q0s (fun c0_ c1_ c2_ c3_ c4_ c5_ c6_ c7_ => o (k_ c0_ c1_ c2_ c3_ c4_ c5_ c6_ c7_)) = o (zdx q08 q0e q0b q0h q0a q0g q0f q0i q0n q0r q0s k_) := by
  unfold zdx
  repeat (first | refine grd_out h0 ?_ | refine br_out ?_ ?_ | rfl | exact h0.symm)
noncomputable def zl3 (q08 : Nat) (q0e : List Nat) (q0b : Nat) (q0h : List Nat) (q0a : Nat) (q0g : List Nat) (q0f : Nat) (q0i : List Nat) (q0n : Int) (q0r : Nat) (q0s : Nat) : Bool := (z6p q08 q0e q0b q0h q0a q0g q0f q0i q0n q0r q0s).isSome
noncomputable def z9y (q08 : Nat) (q0e : List Nat) (q0b : Nat) (q0h : List Nat) (q0a : Nat) (q0g : List Nat) (q0f : Nat) (q0i : List Nat) (q0n : Int) (q0r : Nat) (q0s : Nat) : Nat := ((z6p q08 q0e q0b q0h q0a q0g q0f q0i q0n q0r q0s).getD default).1
noncomputable def z9v (q08 : Nat) (q0e : List Nat) (q0b : Nat) (q0h : List Nat) (q0a : Nat) (q0g : List Nat) (q0f : Nat) (q0i : List Nat) (q0n : Int) (q0r : Nat) (q0s : Nat) : Nat := ((z6p q08 q0e q0b q0h q0a q0g q0f q0i q0n q0r q0s).getD default).2.1
noncomputable def z9w (q08 : Nat) (q0e : List Nat) (q0b : Nat) (q0h : List Nat) (q0a : Nat) (q0g : List Nat) (q0f : Nat) (q0i : List Nat) (q0n : Int) (q0r : Nat) (q0s : Nat) : Nat := ((z6p q08 q0e q0b q0h q0a q0g q0f q0i q0n q0r q0s).getD default).2.2.1
noncomputable def z6q (q08 : Nat) (q0e : List Nat) (q0b : Nat) (q0h : List Nat) (q0a : Nat) (q0g : List Nat) (q0f : Nat) (q0i : List Nat) (q0n : Int) (q0r : Nat) (q0s : Nat) : Nat := ((z6p q08 q0e q0b q0h q0a q0g q0f q0i q0n q0r q0s).getD default).2.2.2.1
noncomputable def zdc (q08 : Nat) (q0e : List Nat) (q0b : Nat) (q0h : List Nat) (q0a : Nat) (q0g : List Nat) (q0f : Nat) (q0i : List Nat) (q0n : Int) (q0r : Nat) (q0s : Nat) : List Nat := ((z6p q08 q0e q0b q0h q0a q0g q0f q0i q0n q0r q0s).getD default).2.2.2.2.1
noncomputable def zd2 (q08 : Nat) (q0e : List Nat) (q0b : Nat) (q0h : List Nat) (q0a : Nat) (q0g : List Nat) (q0f : Nat) (q0i : List Nat) (q0n : Int) (q0r : Nat) (q0s : Nat) : List Nat := ((z6p q08 q0e q0b q0h q0a q0g q0f q0i q0n q0r q0s).getD default).2.2.2.2.2.1
noncomputable def zcy (q08 : Nat) (q0e : List Nat) (q0b : Nat) (q0h : List Nat) (q0a : Nat) (q0g : List Nat) (q0f : Nat) (q0i : List Nat) (q0n : Int) (q0r : Nat) (q0s : Nat) : List Nat := ((z6p q08 q0e q0b q0h q0a q0g q0f q0i q0n q0r q0s).getD default).2.2.2.2.2.2.1
noncomputable def zap (q08 : Nat) (q0e : List Nat) (q0b : Nat) (q0h : List Nat) (q0a : Nat) (q0g : List Nat) (q0f : Nat) (q0i : List Nat) (q0n : Int) (q0r : Nat) (q0s : Nat) : List Nat := ((z6p q08 q0e q0b q0h q0a q0g q0f q0i q0n q0r q0s).getD default).2.2.2.2.2.2.2
theorem zs2 {q08 : Nat} {q0e : List Nat} {q0b : Nat} {q0h : List Nat} {q0a : Nat} {q0g : List Nat} {q0f : Nat} {q0i : List Nat} {q0n : Int} {q0r : Nat} {q0s : Nat} {r : Nat × Nat × Nat × Nat × (List Nat) × (List Nat) × (List Nat) × (List Nat)} (h : z6p q08 q0e q0b q0h q0a q0g q0f q0i q0n q0r q0s = some r) : zl3 q08 q0e q0b q0h q0a q0g q0f q0i q0n q0r q0s = true ∧ z9y q08 q0e q0b q0h q0a q0g q0f q0i q0n q0r q0s = r.1 ∧ z9v q08 q0e q0b q0h q0a q0g q0f q0i q0n q0r q0s = r.2.1 ∧ z9w q08 q0e q0b q0h q0a q0g q0f q0i q0n q0r q0s = r.2.2.1 ∧ z6q q08 q0e q0b q0h q0a q0g q0f q0i q0n q0r q0s = r.2.2.2.1 ∧ zdc q08 q0e q0b q0h q0a q0g q0f q0i q0n q0r q0s = r.2.2.2.2.1 ∧ zd2 q08 q0e q0b q0h q0a q0g q0f q0i q0n q0r q0s = r.2.2.2.2.2.1 ∧ zcy q08 q0e q0b q0h q0a q0g q0f q0i q0n q0r q0s = r.2.2.2.2.2.2.1 ∧ zap q08 q0e q0b q0h q0a q0g q0f q0i q0n q0r q0s = r.2.2.2.2.2.2.2 := by
  unfold zl3 z9y z9v z9w z6q zdc zd2 zcy zap
  rw [h]
  exact ⟨rfl, rfl, rfl, rfl, rfl, rfl, rfl, rfl, rfl⟩
noncomputable def zd3 {R : Type} (x : Nat) (k_ : Bool → Option R) : Option R := (grd (zka x) (k_ (bnot (zhe x))))
noncomputable def zcx (x : Nat) : Option (Bool) := zd3 x (fun c0_ => some c0_)
theorem zpp {R R' : Type} (o : Option R → Option R') (h0 : o none = none) (x : Nat) (k_ : Bool → Option R) : zd3 x (fun c0_ => o (k_ c0_)) = o (zd3 x k_) := by
  unfold zd3
  repeat (first | refine grd_out h0 ?_ | refine br_out ?_ ?_ | rfl | exact h0.symm)
noncomputable def zju (x : Nat) : Bool := (zcx x).isSome
noncomputable def zho (x : Nat) : Bool := ((zcx x).getD default)
theorem zrb {x : Nat} {r : Bool} (h : zcx x = some r) : zju x = true ∧ zho x = r := by
  unfold zju zho
  rw [h]
  exact ⟨rfl, rfl⟩
noncomputable def z7w {R : Type} (an : Nat) (bn : Nat) (b0 : List Nat) (b1 : List Nat) (i : Int) (kn_ : Int → Option R) (k0_ : Unit → Option R) (k1_ : Int → Bool → Option R) : Option R := (br (ltI i (Int.ofNat an)) (grd (okIx i an) (grd (okIx i bn) (grd (z9h (fcvV FloatKind.f32 FloatKind.f64 (gF b0 (ixO 0 i 1))) (fcvV FloatKind.f32 FloatKind.f64 (gF b1 (ixO 0 i 1)))) (br (bnot (z97 (fcvV FloatKind.f32 FloatKind.f64 (gF b0 (ixO 0 i 1))) (fcvV FloatKind.f32 FloatKind.f64 (gF b1 (ixO 0 i 1))))) (k0_ ()) (kn_ (addI IntKind.i64 i 1)))))) (k1_ i (ltI i (Int.ofNat an))))
theorem znp {R R' : Type} (o : Option R → Option R') (h0 : o none = none) (an : Nat) (bn : Nat) (b0 : List Nat) (b1 : List Nat) (i : Int) (kn_ : Int → Option R) (k0_ : Unit → Option R) (k1_ : Int → Bool → Option R) : z7w an bn b0 b1 i (fun i' => o (kn_ i')) (fun _ => o (k0_ ())) (fun c0_ c1_ => o (k1_ c0_ c1_)) = o (z7w an bn b0 b1 i kn_ k0_ k1_) := by
  unfold z7w
  repeat (first | refine grd_out h0 ?_ | refine br_out ?_ ?_ | rfl | exact h0.symm)
noncomputable def z65 (an : Nat) (bn : Nat) (b0 : List Nat) (b1 : List Nat) : Nat → Int → Option ((Unit) ⊕ (Int × Bool))
  | 0, _ => none
  | n + 1, i => z7w an bn b0 b1  i  (fun i' => z65 an bn b0 b1 n i') (fun _ => some (Sum.inl ())) (fun c0_ c1_ => some (Sum.inr (c0_, c1_)))
theorem zll (an : Nat) (bn : Nat) (b0 : List Nat) (b1 : List Nat) (n : Nat) (i : Int) : z65 an bn b0 b1 (n + 1) i = z7w an bn b0 b1  i  (fun i' => z65 an bn b0 b1 n i') (fun _ => some (Sum.inl ())) (fun c0_ c1_ => some (Sum.inr (c0_, c1_))) := rfl
noncomputable def zep (an : Nat) (bn : Nat) (b0 : List Nat) (b1 : List Nat) (i : Int) : Bool := (z65 an bn b0 b1 big i).isSome
noncomputable def zeg (an : Nat) (bn : Nat) (b0 : List Nat) (b1 : List Nat) (i : Int) : Bool := oL (z65 an bn b0 b1 big i)
noncomputable def zgb (an : Nat) (bn : Nat) (b0 : List Nat) (b1 : List Nat) (i : Int) : Int := ((tR (z65 an bn b0 b1 big i)).getD default).1
noncomputable def zgk (an : Nat) (bn : Nat) (b0 : List Nat) (b1 : List Nat) (i : Int) : Bool := ((tR (z65 an bn b0 b1 big i)).getD default).2
theorem zp2 {an : Nat} {bn : Nat} {b0 : List Nat} {b1 : List Nat} {i : Int} {m : Nat} {r : Int × Bool} (hm : m = big) (h : z65 an bn b0 b1 m i = some (Sum.inr r)) : zep an bn b0 b1 i = true ∧ zeg an bn b0 b1 i = false ∧ zgb an bn b0 b1 i = r.1 ∧ zgk an bn b0 b1 i = r.2 := by
  subst hm
  unfold zep zeg zgb zgk
  rw [h]
  exact ⟨rfl, rfl, rfl, rfl⟩
noncomputable def z7u {R : Type} (an : Nat) (q2l : Nat) (b0 : List Nat) (i : Int) (b1 : List Nat) (kn_ : Int → (List Nat) → Option R) (k0_ : Int → Bool → (List Nat) → Option R) : Option R := (br (ltI i (Int.ofNat an)) (grd (okIx i an) (grd (zmi (gF b0 (ixO 0 i 3)) (gF b0 (Nat.succ (ixO 0 i 3))) (gF b0 (Nat.succ (Nat.succ (ixO 0 i 3))))) (grd (okIx i q2l) (kn_ (addI IntKind.i64 i 1) (sF (sF (sF b1 (ixO 0 i 3) (gF b0 (ixO 0 i 3))) (Nat.succ (ixO 0 i 3)) (gF b0 (Nat.succ (ixO 0 i 3)))) (Nat.succ (Nat.succ (ixO 0 i 3))) (gF b0 (Nat.succ (Nat.succ (ixO 0 i 3))))))))) (k0_ i (ltI i (Int.ofNat an)) b1))
theorem zo1 {R R' : Type} (o : Option R → Option R') (h0 : o none = none) (an : Nat) (q2l : Nat) (b0 : List Nat) (i : Int) (b1 : List Nat) (kn_ : Int → (List Nat) → Option R) (k0_ : Int → Bool → (List Nat) → Option R) : z7u an q2l b0 i b1 (fun i' b1' => o (kn_ i' b1')) (fun c0_ c1_ c2_ => o (k0_ c0_ c1_ c2_)) = o (z7u an q2l b0 i b1 kn_ k0_) := by
  unfold z7u
  repeat (first | refine grd_out h0 ?_ | refine br_out ?_ ?_ | rfl | exact h0.symm)
noncomputable def z58 (an : Nat) (q2l : Nat) (b0 : List Nat) : Nat → Int → (List Nat) → Option ((Int × Bool × (List Nat)))
  | 0, _, _ => none
  | n + 1, i, b1 => z7u an q2l b0  i b1  (fun i' b1' => z58 an q2l b0 n i' b1') (fun c0_ c1_ c2_ => some (c0_, c1_, c2_))
theorem zlh (an : Nat) (q2l : Nat) (b0 : List Nat) (n : Nat) (i : Int) (b1 : List Nat) : z58 an q2l b0 (n + 1) i b1 = z7u an q2l b0  i b1  (fun i' b1' => z58 an q2l b0 n i' b1') (fun c0_ c1_ c2_ => some (c0_, c1_, c2_)) := rfl
noncomputable def zcu (an : Nat) (q2l : Nat) (b0 : List Nat) (i : Int) (b1 : List Nat) : Bool := (z58 an q2l b0 big i b1).isSome
noncomputable def zgq (an : Nat) (q2l : Nat) (b0 : List Nat) (i : Int) (b1 : List Nat) : Int := ((z58 an q2l b0 big i b1).getD default).1
noncomputable def zge (an : Nat) (q2l : Nat) (b0 : List Nat) (i : Int) (b1 : List Nat) : Bool := ((z58 an q2l b0 big i b1).getD default).2.1
noncomputable def zal (an : Nat) (q2l : Nat) (b0 : List Nat) (i : Int) (b1 : List Nat) : List Nat := ((z58 an q2l b0 big i b1).getD default).2.2
theorem zot {an : Nat} {q2l : Nat} {b0 : List Nat} {i : Int} {b1 : List Nat} {m : Nat} {r : Int × Bool × (List Nat)} (hm : m = big) (h : z58 an q2l b0 m i b1 = some r) : zcu an q2l b0 i b1 = true ∧ zgq an q2l b0 i b1 = r.1 ∧ zge an q2l b0 i b1 = r.2.1 ∧ zal an q2l b0 i b1 = r.2.2 := by
  subst hm
  unfold zcu zgq zge zal
  rw [h]
  exact ⟨rfl, rfl, rfl, rfl⟩
noncomputable def ze0 {R : Type} (q0t : Nat) (q0z : List Nat) (q0v : Nat) (q15 : List Nat) (q0x : Nat) (q18 : List Nat) (k_ : Nat → Nat → Nat → (List Nat) → (List Nat) → (List Nat) → Option R) : Option R := (grd (zcz q0t (pF q0z 0 (muN q0t 1))) (grd (zcz q0v (pF q15 0 (muN q0v 1))) (grd (zcz q0x (pF q18 0 (muN q0x 1))) (k_ (zc8 q0t (pF q0z 0 (muN q0t 1))) (zc8 q0v (pF q15 0 (muN q0v 1))) (zc8 q0x (pF q18 0 (muN q0x 1))) (zch q0t (pF q0z 0 (muN q0t 1))) (zch q0v (pF q15 0 (muN q0v 1))) (zch q0x (pF q18 0 (muN q0x 1)))))))
noncomputable def z82 (q0t : Nat) (q0z : List Nat) (q0v : Nat) (q15 : List Nat) (q0x : Nat) (q18 : List Nat) : Option (Nat × Nat × Nat × (List Nat) × (List Nat) × (List Nat)) := ze0 q0t q0z q0v q15 q0x q18 (fun c0_ c1_ c2_ c3_ c4_ c5_ => some (c0_, c1_, c2_, c3_, c4_, c5_))
theorem zq2 {R R' : Type} (o : Option R → Option R') (h0 : o none = none) (q0t : Nat) (q0z : List Nat) (q0v : Nat) (q15 : List Nat) (q0x : Nat) (q18 : List Nat) (k_ : Nat → Nat → Nat → (List Nat) → (List Nat) → (List Nat) → Option R) : ze0 q0t q0z q0v q15 q0x q18 (fun c0_ c1_ c2_ c3_ c4_ c5_ => o (k_ c0_ c1_ c2_ c3_ c4_ c5_)) = o (ze0 q0t q0z q0v q15 q0x q18 k_) := by
  unfold ze0
  repeat (first | refine grd_out h0 ?_ | refine br_out ?_ ?_ | rfl | exact h0.symm)
noncomputable def zkx (q0t : Nat) (q0z : List Nat) (q0v : Nat) (q15 : List Nat) (q0x : Nat) (q18 : List Nat) : Bool := (z82 q0t q0z q0v q15 q0x q18).isSome
noncomputable def zjm (q0t : Nat) (q0z : List Nat) (q0v : Nat) (q15 : List Nat) (q0x : Nat) (q18 : List Nat) : Nat := ((z82 q0t q0z q0v q15 q0x q18).getD default).1
noncomputable def zjh (q0t : Nat) (q0z : List Nat) (q0v : Nat) (q15 : List Nat) (q0x : Nat) (q18 : List Nat) : Nat := ((z82 q0t q0z q0v q15 q0x q18).getD default).2.1
noncomputable def zjk (q0t : Nat) (q0z : List Nat) (q0v : Nat) (q15 : List Nat) (q0x : Nat) (q18 : List Nat) : Nat := ((z82 q0t q0z q0v q15 q0x q18).getD default).2.2.1
noncomputable def zjj (q0t : Nat) (q0z : List Nat) (q0v : Nat) (q15 : List Nat) (q0x : Nat) (q18 : List Nat) : List Nat := ((z82 q0t q0z q0v q15 q0x q18).getD default).2.2.2.1
noncomputable def zjo (q0t : Nat) (q0z : List Nat) (q0v : Nat) (q15 : List Nat) (q0x : Nat) (q18 : List Nat) : List Nat := ((z82 q0t q0z q0v q15 q0x q18).getD default).2.2.2.2.1
noncomputable def zjg (q0t : Nat) (q0z : List Nat) (q0v : Nat) (q15 : List Nat) (q0x : Nat) (q18 : List Nat) : List Nat := ((z82 q0t q0z q0v q15 q0x q18).getD default).2.2.2.2.2
theorem zru {q0t : Nat} {q0z : List Nat} {q0v : Nat} {q15 : List Nat} {q0x : Nat} {q18 : List Nat} {r : Nat × Nat × Nat × (List Nat) × (List Nat) × (List Nat)} (h : z82 q0t q0z q0v q15 q0x q18 = some r) : zkx q0t q0z q0v q15 q0x q18 = true ∧ zjm q0t q0z q0v q15 q0x q18 = r.1 ∧ zjh q0t q0z q0v q15 q0x q18 = r.2.1 ∧ zjk q0t q0z q0v q15 q0x q18 = r.2.2.1 ∧ zjj q0t q0z q0v q15 q0x q18 = r.2.2.2.1 ∧ zjo q0t q0z q0v q15 q0x q18 = r.2.2.2.2.1 ∧ zjg q0t q0z q0v q15 q0x q18 = r.2.2.2.2.2 := by
  unfold zkx zjm zjh zjk zjj zjo zjg
  rw [h]
  exact ⟨rfl, rfl, rfl, rfl, rfl, rfl, rfl⟩
noncomputable def zcf {R : Type} (q0t : Nat) (q0z : List Nat) (q0v : Nat) (q15 : List Nat) (q0x : Nat) (q18 : List Nat) (k : Int) (k_ : Int → Option R) : Option R := (grd (zb3 q0t (pF q0z 0 (muN q0t 1)) k) (br (ltI (z59 q0t (pF q0z 0 (muN q0t 1)) k) 0) (k_ (Int.negSucc 0)) (grd (zb3 q0v (pF q15 0 (muN q0v 1)) (z59 q0t (pF q0z 0 (muN q0t 1)) k)) (br (ltI (z59 q0v (pF q15 0 (muN q0v 1)) (z59 q0t (pF q0z 0 (muN q0t 1)) k)) 0) (k_ (Int.negSucc 0)) (grd (zb3 q0x (pF q18 0 (muN q0x 1)) (z59 q0v (pF q15 0 (muN q0v 1)) (z59 q0t (pF q0z 0 (muN q0t 1)) k))) (br (ltI (z59 q0x (pF q18 0 (muN q0x 1)) (z59 q0v (pF q15 0 (muN q0v 1)) (z59 q0t (pF q0z 0 (muN q0t 1)) k))) 0) (k_ (Int.negSucc 0)) (k_ (z59 q0x (pF q18 0 (muN q0x 1)) (z59 q0v (pF q15 0 (muN q0v 1)) (z59 q0t (pF q0z 0 (muN q0t 1)) k))))))))))
noncomputable def zcd (q0t : Nat) (q0z : List Nat) (q0v : Nat) (q15 : List Nat) (q0x : Nat) (q18 : List Nat) (k : Int) : Option (Int) := zcf q0t q0z q0v q15 q0x q18 k (fun c0_ => some c0_)
theorem zor {R R' : Type} (o : Option R → Option R') (h0 : o none = none) (q0t : Nat) (q0z : List Nat) (q0v : Nat) (q15 : List Nat) (q0x : Nat) (q18 : List Nat) (k : Int) (k_ : Int → Option R) : zcf q0t q0z q0v q15 q0x q18 k (fun c0_ => o (k_ c0_)) = o (zcf q0t q0z q0v q15 q0x q18 k k_) := by
  unfold zcf
  repeat (first | refine grd_out h0 ?_ | refine br_out ?_ ?_ | rfl | exact h0.symm)
noncomputable def zh7 (q0t : Nat) (q0z : List Nat) (q0v : Nat) (q15 : List Nat) (q0x : Nat) (q18 : List Nat) (k : Int) : Bool := (zcd q0t q0z q0v q15 q0x q18 k).isSome
noncomputable def z9z (q0t : Nat) (q0z : List Nat) (q0v : Nat) (q15 : List Nat) (q0x : Nat) (q18 : List Nat) (k : Int) : Int := ((zcd q0t q0z q0v q15 q0x q18 k).getD default)
theorem zr4 {q0t : Nat} {q0z : List Nat} {q0v : Nat} {q15 : List Nat} {q0x : Nat} {q18 : List Nat} {k : Int} {r : Int} (h : zcd q0t q0z q0v q15 q0x q18 k = some r) : zh7 q0t q0z q0v q15 q0x q18 k = true ∧ z9z q0t q0z q0v q15 q0x q18 k = r := by
  unfold zh7 z9z
  rw [h]
  exact ⟨rfl, rfl⟩
noncomputable def zdb {R : Type} (a_n : Nat) (a : List Nat) (b_n : Nat) (b : List Nat) (k_ : Bool → Option R) : Option R := (br (neI (Int.ofNat a_n) (Int.ofNat b_n)) (k_ Bool.false) (grd (zep a_n b_n a b 0) (br (zeg a_n b_n a b 0) (k_ Bool.false) (k_ Bool.true))))
noncomputable def zda (a_n : Nat) (a : List Nat) (b_n : Nat) (b : List Nat) : Option (Bool) := zdb a_n a b_n b (fun c0_ => some c0_)
theorem zpi {R R' : Type} (o : Option R → Option R') (h0 : o none = none) (a_n : Nat) (a : List Nat) (b_n : Nat) (b : List Nat) (k_ : Bool → Option R) : zdb a_n a b_n b (fun c0_ => o (k_ c0_)) = o (zdb a_n a b_n b k_) := by
  unfold zdb
  repeat (first | refine grd_out h0 ?_ | refine br_out ?_ ?_ | rfl | exact h0.symm)
noncomputable def zdd (a_n : Nat) (a : List Nat) (b_n : Nat) (b : List Nat) : Bool := (zda a_n a b_n b).isSome
noncomputable def zc5 (a_n : Nat) (a : List Nat) (b_n : Nat) (b : List Nat) : Bool := ((zda a_n a b_n b).getD default)
theorem zlv {a_n : Nat} {a : List Nat} {b_n : Nat} {b : List Nat} {r : Bool} (h : zda a_n a b_n b = some r) : zdd a_n a b_n b = true ∧ zc5 a_n a b_n b = r := by
  unfold zdd zc5
  rw [h]
  exact ⟨rfl, rfl⟩
noncomputable def zdf {R : Type} (a_n : Nat) (a : List Nat) (k_ : Nat → (List Nat) → Option R) : Option R := (grd (okMk (Int.ofNat a_n) (Int.ofNat a_n) 12) (grd (zcu a_n (toN (Int.ofNat a_n)) a 0 (rF (muN (toN (Int.ofNat a_n)) 3))) (k_ (toN (Int.ofNat a_n)) (zal a_n (toN (Int.ofNat a_n)) a 0 (rF (muN (toN (Int.ofNat a_n)) 3))))))
noncomputable def zao (a_n : Nat) (a : List Nat) : Option (Nat × (List Nat)) := zdf a_n a (fun c0_ c1_ => some (c0_, c1_))
theorem zp8 {R R' : Type} (o : Option R → Option R') (h0 : o none = none) (a_n : Nat) (a : List Nat) (k_ : Nat → (List Nat) → Option R) : zdf a_n a (fun c0_ c1_ => o (k_ c0_ c1_)) = o (zdf a_n a k_) := by
  unfold zdf
  repeat (first | refine grd_out h0 ?_ | refine br_out ?_ ?_ | rfl | exact h0.symm)
noncomputable def zjs (a_n : Nat) (a : List Nat) : Bool := (zao a_n a).isSome
noncomputable def zhz (a_n : Nat) (a : List Nat) : Nat := ((zao a_n a).getD default).1
noncomputable def zib (a_n : Nat) (a : List Nat) : List Nat := ((zao a_n a).getD default).2
theorem zrk {a_n : Nat} {a : List Nat} {r : Nat × (List Nat)} (h : zao a_n a = some r) : zjs a_n a = true ∧ zhz a_n a = r.1 ∧ zib a_n a = r.2 := by
  unfold zjs zhz zib
  rw [h]
  exact ⟨rfl, rfl, rfl⟩
noncomputable def za2 {R : Type} (t3 : Int) (b0 : List Nat) (b1 : List Nat) (b2 : List Nat) (q27 : Nat) (q2m : Nat) (q2n : Nat) (t4 : Int) (kn_ : Int → Option R) (k0_ : Unit → Option R) (k1_ : Int → Bool → Option R) : Option R := (br (ltI t4 t3) (grd (okIx t4 q27) (br (fcmp BinOp.geq FloatKind.f32 (gF b0 (ixO 0 t4 1)) 3204448256) (grd (okIx t4 q27) (br (bnot (fcmp BinOp.leq FloatKind.f32 (gF b0 (ixO 0 t4 1)) 1056964608)) (k0_ ()) (br (ltI 0 t4) (grd (okIx t4 q27) (grd (okIx (subI IntKind.i64 t4 1) q27) (br (fcmp BinOp.leq FloatKind.f32 (gF b0 (ixO 0 t4 1)) (gF b0 (ixO 0 (subI IntKind.i64 t4 1) 1))) (k0_ ()) (grd (okIx t4 q2m) (grd (z81 (gF b1 (ixO 0 t4 1))) (br (bnot (z7p (gF b1 (ixO 0 t4 1)))) (k0_ ()) (grd (okIx t4 q2n) (grd (zas (gF b2 (ixO 0 t4 1))) (br (bnot (zab (gF b2 (ixO 0 t4 1)))) (k0_ ()) (kn_ (addI IntKind.i64 t4 1))))))))))) (grd (okIx t4 q2m) (grd (z81 (gF b1 (ixO 0 t4 1))) (br (bnot (z7p (gF b1 (ixO 0 t4 1)))) (k0_ ()) (grd (okIx t4 q2n) (grd (zas (gF b2 (ixO 0 t4 1))) (br (bnot (zab (gF b2 (ixO 0 t4 1)))) (k0_ ()) (kn_ (addI IntKind.i64 t4 1))))))))))) (br (bnot Bool.false) (k0_ ()) (br (ltI 0 t4) (grd (okIx t4 q27) (grd (okIx (subI IntKind.i64 t4 1) q27) (br (fcmp BinOp.leq FloatKind.f32 (gF b0 (ixO 0 t4 1)) (gF b0 (ixO 0 (subI IntKind.i64 t4 1) 1))) (k0_ ()) (grd (okIx t4 q2m) (grd (z81 (gF b1 (ixO 0 t4 1))) (br (bnot (z7p (gF b1 (ixO 0 t4 1)))) (k0_ ()) (grd (okIx t4 q2n) (grd (zas (gF b2 (ixO 0 t4 1))) (br (bnot (zab (gF b2 (ixO 0 t4 1)))) (k0_ ()) (kn_ (addI IntKind.i64 t4 1))))))))))) (grd (okIx t4 q2m) (grd (z81 (gF b1 (ixO 0 t4 1))) (br (bnot (z7p (gF b1 (ixO 0 t4 1)))) (k0_ ()) (grd (okIx t4 q2n) (grd (zas (gF b2 (ixO 0 t4 1))) (br (bnot (zab (gF b2 (ixO 0 t4 1)))) (k0_ ()) (kn_ (addI IntKind.i64 t4 1)))))))))))) (k1_ t4 (ltI t4 t3)))
theorem zr5 {R R' : Type} (o : Option R → Option R') (h0 : o none = none) (t3 : Int) (b0 : List Nat) (b1 : List Nat) (b2 : List Nat) (q27 : Nat) (q2m : Nat) (q2n : Nat) (t4 : Int) (kn_ : Int → Option R) (k0_ : Unit → Option R) (k1_ : Int → Bool → Option R) : za2 t3 b0 b1 b2 q27 q2m q2n t4 (fun t4' => o (kn_ t4')) (fun _ => o (k0_ ())) (fun c0_ c1_ => o (k1_ c0_ c1_)) = o (za2 t3 b0 b1 b2 q27 q2m q2n t4 kn_ k0_ k1_) := by
  unfold za2
  repeat (first | refine grd_out h0 ?_ | refine br_out ?_ ?_ | rfl | exact h0.symm)
noncomputable def z7e (t3 : Int) (b0 : List Nat) (b1 : List Nat) (b2 : List Nat) (q27 : Nat) (q2m : Nat) (q2n : Nat) : Nat → Int → Option ((Unit) ⊕ (Int × Bool))
  | 0, _ => none
  | n + 1, t4 => za2 t3 b0 b1 b2 q27 q2m q2n  t4  (fun t4' => z7e t3 b0 b1 b2 q27 q2m q2n n t4') (fun _ => some (Sum.inl ())) (fun c0_ c1_ => some (Sum.inr (c0_, c1_)))
theorem zmk (t3 : Int) (b0 : List Nat) (b1 : List Nat) (b2 : List Nat) (q27 : Nat) (q2m : Nat) (q2n : Nat) (n : Nat) (t4 : Int) : z7e t3 b0 b1 b2 q27 q2m q2n (n + 1) t4 = za2 t3 b0 b1 b2 q27 q2m q2n  t4  (fun t4' => z7e t3 b0 b1 b2 q27 q2m q2n n t4') (fun _ => some (Sum.inl ())) (fun c0_ c1_ => some (Sum.inr (c0_, c1_))) := rfl
noncomputable def zaw (t3 : Int) (b0 : List Nat) (b1 : List Nat) (b2 : List Nat) (q27 : Nat) (q2m : Nat) (q2n : Nat) (t4 : Int) : Bool := (z7e t3 b0 b1 b2 q27 q2m q2n big t4).isSome
noncomputable def zaa (t3 : Int) (b0 : List Nat) (b1 : List Nat) (b2 : List Nat) (q27 : Nat) (q2m : Nat) (q2n : Nat) (t4 : Int) : Bool := oL (z7e t3 b0 b1 b2 q27 q2m q2n big t4)
noncomputable def zlt (t3 : Int) (b0 : List Nat) (b1 : List Nat) (b2 : List Nat) (q27 : Nat) (q2m : Nat) (q2n : Nat) (t4 : Int) : Int := ((tR (z7e t3 b0 b1 b2 q27 q2m q2n big t4)).getD default).1
noncomputable def zlo (t3 : Int) (b0 : List Nat) (b1 : List Nat) (b2 : List Nat) (q27 : Nat) (q2m : Nat) (q2n : Nat) (t4 : Int) : Bool := ((tR (z7e t3 b0 b1 b2 q27 q2m q2n big t4)).getD default).2
theorem zs3 {t3 : Int} {b0 : List Nat} {b1 : List Nat} {b2 : List Nat} {q27 : Nat} {q2m : Nat} {q2n : Nat} {t4 : Int} {m : Nat} {r : Unit} (hm : m = big) (h : z7e t3 b0 b1 b2 q27 q2m q2n m t4 = some (Sum.inl r)) : zaw t3 b0 b1 b2 q27 q2m q2n t4 = true ∧ zaa t3 b0 b1 b2 q27 q2m q2n t4 = true := by
  subst hm
  unfold zaw zaa
  rw [h]
  exact ⟨rfl, rfl⟩
theorem zrx {t3 : Int} {b0 : List Nat} {b1 : List Nat} {b2 : List Nat} {q27 : Nat} {q2m : Nat} {q2n : Nat} {t4 : Int} {m : Nat} {r : Int × Bool} (hm : m = big) (h : z7e t3 b0 b1 b2 q27 q2m q2n m t4 = some (Sum.inr r)) : zaw t3 b0 b1 b2 q27 q2m q2n t4 = true ∧ zaa t3 b0 b1 b2 q27 q2m q2n t4 = false ∧ zlt t3 b0 b1 b2 q27 q2m q2n t4 = r.1 ∧ zlo t3 b0 b1 b2 q27 q2m q2n t4 = r.2 := by
  subst hm
  unfold zaw zaa zlt zlo
  rw [h]
  exact ⟨rfl, rfl, rfl, rfl⟩
noncomputable def z7t {R : Type} (an : Nat) (bn : Nat) (b0 : List Nat) (b1 : List Nat) (i : Int) (kn_ : Int → Option R) (k0_ : Unit → Option R) (k1_ : Int → Bool → Option R) : Option R := (br (ltI i (Int.ofNat an)) (grd (okIx i an) (grd (okIx i bn) (grd (zl6 (gF b0 (ixO 0 i 3)) (gF b0 (Nat.succ (ixO 0 i 3))) (gF b0 (Nat.succ (Nat.succ (ixO 0 i 3)))) (gF b1 (ixO 0 i 3)) (gF b1 (Nat.succ (ixO 0 i 3))) (gF b1 (Nat.succ (Nat.succ (ixO 0 i 3))))) (br (bnot (zjn (gF b0 (ixO 0 i 3)) (gF b0 (Nat.succ (ixO 0 i 3))) (gF b0 (Nat.succ (Nat.succ (ixO 0 i 3)))) (gF b1 (ixO 0 i 3)) (gF b1 (Nat.succ (ixO 0 i 3))) (gF b1 (Nat.succ (Nat.succ (ixO 0 i 3)))))) (k0_ ()) (kn_ (addI IntKind.i64 i 1)))))) (k1_ i (ltI i (Int.ofNat an))))
theorem zno {R R' : Type} (o : Option R → Option R') (h0 : o none = none) (an : Nat) (bn : Nat) (b0 : List Nat) (b1 : List Nat) (i : Int) (kn_ : Int → Option R) (k0_ : Unit → Option R) (k1_ : Int → Bool → Option R) : z7t an bn b0 b1 i (fun i' => o (kn_ i')) (fun _ => o (k0_ ())) (fun c0_ c1_ => o (k1_ c0_ c1_)) = o (z7t an bn b0 b1 i kn_ k0_ k1_) := by
  unfold z7t
  repeat (first | refine grd_out h0 ?_ | refine br_out ?_ ?_ | rfl | exact h0.symm)
noncomputable def z64 (an : Nat) (bn : Nat) (b0 : List Nat) (b1 : List Nat) : Nat → Int → Option ((Unit) ⊕ (Int × Bool))
  | 0, _ => none
  | n + 1, i => z7t an bn b0 b1  i  (fun i' => z64 an bn b0 b1 n i') (fun _ => some (Sum.inl ())) (fun c0_ c1_ => some (Sum.inr (c0_, c1_)))
theorem zld (an : Nat) (bn : Nat) (b0 : List Nat) (b1 : List Nat) (n : Nat) (i : Int) : z64 an bn b0 b1 (n + 1) i = z7t an bn b0 b1  i  (fun i' => z64 an bn b0 b1 n i') (fun _ => some (Sum.inl ())) (fun c0_ c1_ => some (Sum.inr (c0_, c1_))) := rfl
noncomputable def zcv (an : Nat) (bn : Nat) (b0 : List Nat) (b1 : List Nat) (i : Int) : Bool := (z64 an bn b0 b1 big i).isSome
noncomputable def zca (an : Nat) (bn : Nat) (b0 : List Nat) (b1 : List Nat) (i : Int) : Bool := oL (z64 an bn b0 b1 big i)
noncomputable def zg7 (an : Nat) (bn : Nat) (b0 : List Nat) (b1 : List Nat) (i : Int) : Int := ((tR (z64 an bn b0 b1 big i)).getD default).1
noncomputable def zgc (an : Nat) (bn : Nat) (b0 : List Nat) (b1 : List Nat) (i : Int) : Bool := ((tR (z64 an bn b0 b1 big i)).getD default).2
theorem zp1 {an : Nat} {bn : Nat} {b0 : List Nat} {b1 : List Nat} {i : Int} {m : Nat} {r : Int × Bool} (hm : m = big) (h : z64 an bn b0 b1 m i = some (Sum.inr r)) : zcv an bn b0 b1 i = true ∧ zca an bn b0 b1 i = false ∧ zg7 an bn b0 b1 i = r.1 ∧ zgc an bn b0 b1 i = r.2 := by
  subst hm
  unfold zcv zca zg7 zgc
  rw [h]
  exact ⟨rfl, rfl, rfl, rfl⟩
noncomputable def z4l {R : Type} (sn : Nat) (t7 : Int) (b0 : List Nat) (t8 : Int) (kn_ : Int → Option R) (k0_ : Int → Option R) (k1_ : Int → Bool → Option R) : Option R := (br (ltI t8 t7) (grd (okIx t8 sn) (grd (zhp (gF b0 (ixO 0 t8 1))) (br (zfx (gF b0 (ixO 0 t8 1))) (k0_ t8) (kn_ (addI IntKind.i64 t8 1))))) (k1_ t8 (ltI t8 t7)))
theorem zgn {R R' : Type} (o : Option R → Option R') (h0 : o none = none) (sn : Nat) (t7 : Int) (b0 : List Nat) (t8 : Int) (kn_ : Int → Option R) (k0_ : Int → Option R) (k1_ : Int → Bool → Option R) : z4l sn t7 b0 t8 (fun t8' => o (kn_ t8')) (fun c0_ => o (k0_ c0_)) (fun c0_ c1_ => o (k1_ c0_ c1_)) = o (z4l sn t7 b0 t8 kn_ k0_ k1_) := by
  unfold z4l
  repeat (first | refine grd_out h0 ?_ | refine br_out ?_ ?_ | rfl | exact h0.symm)
noncomputable def z2d (sn : Nat) (t7 : Int) (b0 : List Nat) : Nat → Int → Option ((Int) ⊕ (Int × Bool))
  | 0, _ => none
  | n + 1, t8 => z4l sn t7 b0  t8  (fun t8' => z2d sn t7 b0 n t8') (fun c0_ => some (Sum.inl c0_)) (fun c0_ c1_ => some (Sum.inr (c0_, c1_)))
theorem zac (sn : Nat) (t7 : Int) (b0 : List Nat) (n : Nat) (t8 : Int) : z2d sn t7 b0 (n + 1) t8 = z4l sn t7 b0  t8  (fun t8' => z2d sn t7 b0 n t8') (fun c0_ => some (Sum.inl c0_)) (fun c0_ c1_ => some (Sum.inr (c0_, c1_))) := rfl
noncomputable def z5i (sn : Nat) (t7 : Int) (b0 : List Nat) (t8 : Int) : Bool := (z2d sn t7 b0 big t8).isSome
noncomputable def z5h (sn : Nat) (t7 : Int) (b0 : List Nat) (t8 : Int) : Bool := oL (z2d sn t7 b0 big t8)
noncomputable def z6o (sn : Nat) (t7 : Int) (b0 : List Nat) (t8 : Int) : Int := ((tL (z2d sn t7 b0 big t8)).getD default)
noncomputable def z8v (sn : Nat) (t7 : Int) (b0 : List Nat) (t8 : Int) : Int := ((tR (z2d sn t7 b0 big t8)).getD default).1
noncomputable def z8u (sn : Nat) (t7 : Int) (b0 : List Nat) (t8 : Int) : Bool := ((tR (z2d sn t7 b0 big t8)).getD default).2
theorem zih {sn : Nat} {t7 : Int} {b0 : List Nat} {t8 : Int} {m : Nat} {r : Int} (hm : m = big) (h : z2d sn t7 b0 m t8 = some (Sum.inl r)) : z5i sn t7 b0 t8 = true ∧ z5h sn t7 b0 t8 = true ∧ z6o sn t7 b0 t8 = r := by
  subst hm
  unfold z5i z5h z6o
  rw [h]
  exact ⟨rfl, rfl, rfl⟩
theorem zik {sn : Nat} {t7 : Int} {b0 : List Nat} {t8 : Int} {m : Nat} {r : Int × Bool} (hm : m = big) (h : z2d sn t7 b0 m t8 = some (Sum.inr r)) : z5i sn t7 b0 t8 = true ∧ z5h sn t7 b0 t8 = false ∧ z8v sn t7 b0 t8 = r.1 ∧ z8u sn t7 b0 t8 = r.2 := by
  subst hm
  unfold z5i z5h z8v z8u
  rw [h]
  exact ⟨rfl, rfl, rfl, rfl⟩
noncomputable def z4g {R : Type} (sn : Nat) (t7 : Int) (b0 : List Nat) (t8 : Int) (kn_ : Int → Option R) (k0_ : Int → Option R) (k1_ : Int → Bool → Option R) : Option R := (br (ltI t8 t7) (grd (okIx t8 sn) (grd (zen (gF b0 (ixO 0 t8 1))) (br (zej (gF b0 (ixO 0 t8 1))) (k0_ t8) (kn_ (addI IntKind.i64 t8 1))))) (k1_ t8 (ltI t8 t7)))
theorem zfc {R R' : Type} (o : Option R → Option R') (h0 : o none = none) (sn : Nat) (t7 : Int) (b0 : List Nat) (t8 : Int) (kn_ : Int → Option R) (k0_ : Int → Option R) (k1_ : Int → Bool → Option R) : z4g sn t7 b0 t8 (fun t8' => o (kn_ t8')) (fun c0_ => o (k0_ c0_)) (fun c0_ c1_ => o (k1_ c0_ c1_)) = o (z4g sn t7 b0 t8 kn_ k0_ k1_) := by
  unfold z4g
  repeat (first | refine grd_out h0 ?_ | refine br_out ?_ ?_ | rfl | exact h0.symm)
noncomputable def z22 (sn : Nat) (t7 : Int) (b0 : List Nat) : Nat → Int → Option ((Int) ⊕ (Int × Bool))
  | 0, _ => none
  | n + 1, t8 => z4g sn t7 b0  t8  (fun t8' => z22 sn t7 b0 n t8') (fun c0_ => some (Sum.inl c0_)) (fun c0_ c1_ => some (Sum.inr (c0_, c1_)))
theorem za7 (sn : Nat) (t7 : Int) (b0 : List Nat) (n : Nat) (t8 : Int) : z22 sn t7 b0 (n + 1) t8 = z4g sn t7 b0  t8  (fun t8' => z22 sn t7 b0 n t8') (fun c0_ => some (Sum.inl c0_)) (fun c0_ c1_ => some (Sum.inr (c0_, c1_))) := rfl
noncomputable def z5b (sn : Nat) (t7 : Int) (b0 : List Nat) (t8 : Int) : Bool := (z22 sn t7 b0 big t8).isSome
noncomputable def z5a (sn : Nat) (t7 : Int) (b0 : List Nat) (t8 : Int) : Bool := oL (z22 sn t7 b0 big t8)
noncomputable def z6b (sn : Nat) (t7 : Int) (b0 : List Nat) (t8 : Int) : Int := ((tL (z22 sn t7 b0 big t8)).getD default)
noncomputable def z84 (sn : Nat) (t7 : Int) (b0 : List Nat) (t8 : Int) : Int := ((tR (z22 sn t7 b0 big t8)).getD default).1
noncomputable def z85 (sn : Nat) (t7 : Int) (b0 : List Nat) (t8 : Int) : Bool := ((tR (z22 sn t7 b0 big t8)).getD default).2
theorem zg8 {sn : Nat} {t7 : Int} {b0 : List Nat} {t8 : Int} {m : Nat} {r : Int} (hm : m = big) (h : z22 sn t7 b0 m t8 = some (Sum.inl r)) : z5b sn t7 b0 t8 = true ∧ z5a sn t7 b0 t8 = true ∧ z6b sn t7 b0 t8 = r := by
  subst hm
  unfold z5b z5a z6b
  rw [h]
  exact ⟨rfl, rfl, rfl⟩
theorem zgo {sn : Nat} {t7 : Int} {b0 : List Nat} {t8 : Int} {m : Nat} {r : Int × Bool} (hm : m = big) (h : z22 sn t7 b0 m t8 = some (Sum.inr r)) : z5b sn t7 b0 t8 = true ∧ z5a sn t7 b0 t8 = false ∧ z84 sn t7 b0 t8 = r.1 ∧ z85 sn t7 b0 t8 = r.2 := by
  subst hm
  unfold z5b z5a z84 z85
  rw [h]
  exact ⟨rfl, rfl, rfl, rfl⟩
noncomputable def zdp {R : Type} (q0t : Nat) (q0z : List Nat) (q0v : Nat) (q15 : List Nat) (q0x : Nat) (q18 : List Nat) (q32 : Nat) (q39 : List Nat) (q34 : Nat) (q3d : List Nat) (q35 : Nat) (q3e : List Nat) (k_ : Bool → Option R) : Option R := (grd (zdd q0t (pF q0z 0 (muN q0t 1)) q32 (pF q39 0 (muN q32 1))) (br (bnot (zc5 q0t (pF q0z 0 (muN q0t 1)) q32 (pF q39 0 (muN q32 1)))) (k_ Bool.false) (grd (zdd q0v (pF q15 0 (muN q0v 1)) q34 (pF q3d 0 (muN q34 1))) (br (bnot (zc5 q0v (pF q15 0 (muN q0v 1)) q34 (pF q3d 0 (muN q34 1)))) (k_ Bool.false) (grd (zdd q0x (pF q18 0 (muN q0x 1)) q35 (pF q3e 0 (muN q35 1))) (br (bnot (zc5 q0x (pF q18 0 (muN q0x 1)) q35 (pF q3e 0 (muN q35 1)))) (k_ Bool.false) (k_ Bool.true)))))))
noncomputable def zdy (q0t : Nat) (q0z : List Nat) (q0v : Nat) (q15 : List Nat) (q0x : Nat) (q18 : List Nat) (q32 : Nat) (q39 : List Nat) (q34 : Nat) (q3d : List Nat) (q35 : Nat) (q3e : List Nat) : Option (Bool) := zdp q0t q0z q0v q15 q0x q18 q32 q39 q34 q3d q35 q3e (fun c0_ => some c0_)
theorem zq5 {R R' : Type} (o : Option R → Option R') (h0 : o none = none) (q0t : Nat) (q0z : List Nat) (q0v : Nat) (q15 : List Nat) (q0x : Nat) (q18 : List Nat) (q32 : Nat) (q39 : List Nat) (q34 : Nat) (q3d : List Nat) (q35 : Nat) (q3e : List Nat) (k_ : Bool → Option R) : zdp q0t q0z q0v q15 q0x q18 q32 q39 q34 q3d q35 q3e (fun c0_ => o (k_ c0_)) = o (zdp q0t q0z q0v q15 q0x q18 q32 q39 q34 q3d q35 q3e k_) := by
  unfold zdp
  repeat (first | refine grd_out h0 ?_ | refine br_out ?_ ?_ | rfl | exact h0.symm)
noncomputable def zkw (q0t : Nat) (q0z : List Nat) (q0v : Nat) (q15 : List Nat) (q0x : Nat) (q18 : List Nat) (q32 : Nat) (q39 : List Nat) (q34 : Nat) (q3d : List Nat) (q35 : Nat) (q3e : List Nat) : Bool := (zdy q0t q0z q0v q15 q0x q18 q32 q39 q34 q3d q35 q3e).isSome
noncomputable def zji (q0t : Nat) (q0z : List Nat) (q0v : Nat) (q15 : List Nat) (q0x : Nat) (q18 : List Nat) (q32 : Nat) (q39 : List Nat) (q34 : Nat) (q3d : List Nat) (q35 : Nat) (q3e : List Nat) : Bool := ((zdy q0t q0z q0v q15 q0x q18 q32 q39 q34 q3d q35 q3e).getD default)
theorem zn8 {q0t : Nat} {q0z : List Nat} {q0v : Nat} {q15 : List Nat} {q0x : Nat} {q18 : List Nat} {q32 : Nat} {q39 : List Nat} {q34 : Nat} {q3d : List Nat} {q35 : Nat} {q3e : List Nat} {r : Bool} (h : zdy q0t q0z q0v q15 q0x q18 q32 q39 q34 q3d q35 q3e = some r) : zkw q0t q0z q0v q15 q0x q18 q32 q39 q34 q3d q35 q3e = true ∧ zji q0t q0z q0v q15 q0x q18 q32 q39 q34 q3d q35 q3e = r := by
  unfold zkw zji
  rw [h]
  exact ⟨rfl, rfl⟩
noncomputable def zdv {R : Type} (q0j : Nat) (q0m : List Nat) (q0l : Nat) (q0o : List Nat) (q0k : Nat) (q0p : List Nat) (q0q : Nat) (q0u : List Nat) (q16 : Int) (q23 : Nat) (q24 : Nat) (k : Int) (k_ : Int → Option R) : Option R := (grd (zh7 q0j (pF q0m 0 (muN q0j 1)) q0l (pF q0o 0 (muN q0l 1)) q0k (pF q0p 0 (muN q0k 1)) k) (br (ltI (z9z q0j (pF q0m 0 (muN q0j 1)) q0l (pF q0o 0 (muN q0l 1)) q0k (pF q0p 0 (muN q0k 1)) k) 0) (k_ (Int.negSucc 0)) (grd (zfv q0q (pF q0u 0 (muN q0q 3)) (z9z q0j (pF q0m 0 (muN q0j 1)) q0l (pF q0o 0 (muN q0l 1)) q0k (pF q0p 0 (muN q0k 1)) k)) (br (ltI (zcw q0q (pF q0u 0 (muN q0q 3)) (z9z q0j (pF q0m 0 (muN q0j 1)) q0l (pF q0o 0 (muN q0l 1)) q0k (pF q0p 0 (muN q0k 1)) k)) 0) (k_ (Int.negSucc 0)) (k_ (zcw q0q (pF q0u 0 (muN q0q 3)) (z9z q0j (pF q0m 0 (muN q0j 1)) q0l (pF q0o 0 (muN q0l 1)) q0k (pF q0p 0 (muN q0k 1)) k)))))))
noncomputable def zdo (q0j : Nat) (q0m : List Nat) (q0l : Nat) (q0o : List Nat) (q0k : Nat) (q0p : List Nat) (q0q : Nat) (q0u : List Nat) (q16 : Int) (q23 : Nat) (q24 : Nat) (k : Int) : Option (Int) := zdv q0j q0m q0l q0o q0k q0p q0q q0u q16 q23 q24 k (fun c0_ => some c0_)
theorem zqg {R R' : Type} (o : Option R → Option R') (h0 : o none = none) (q0j : Nat) (q0m : List Nat) (q0l : Nat) (q0o : List Nat) (q0k : Nat) (q0p : List Nat) (q0q : Nat) (q0u : List Nat) (q16 : Int) (q23 : Nat) (q24 : Nat) (k : Int) (k_ : Int → Option R) : zdv q0j q0m q0l q0o q0k q0p q0q q0u q16 q23 q24 k (fun c0_ => o (k_ c0_)) = o (zdv q0j q0m q0l q0o q0k q0p q0q q0u q16 q23 q24 k k_) := by
  unfold zdv
  repeat (first | refine grd_out h0 ?_ | refine br_out ?_ ?_ | rfl | exact h0.symm)
noncomputable def zky (q0j : Nat) (q0m : List Nat) (q0l : Nat) (q0o : List Nat) (q0k : Nat) (q0p : List Nat) (q0q : Nat) (q0u : List Nat) (q16 : Int) (q23 : Nat) (q24 : Nat) (k : Int) : Bool := (zdo q0j q0m q0l q0o q0k q0p q0q q0u q16 q23 q24 k).isSome
noncomputable def zjp (q0j : Nat) (q0m : List Nat) (q0l : Nat) (q0o : List Nat) (q0k : Nat) (q0p : List Nat) (q0q : Nat) (q0u : List Nat) (q16 : Int) (q23 : Nat) (q24 : Nat) (k : Int) : Int := ((zdo q0j q0m q0l q0o q0k q0p q0q q0u q16 q23 q24 k).getD default)
theorem zrs {q0j : Nat} {q0m : List Nat} {q0l : Nat} {q0o : List Nat} {q0k : Nat} {q0p : List Nat} {q0q : Nat} {q0u : List Nat} {q16 : Int} {q23 : Nat} {q24 : Nat} {k : Int} {r : Int} (h : zdo q0j q0m q0l q0o q0k q0p q0q q0u q16 q23 q24 k = some r) : zky q0j q0m q0l q0o q0k q0p q0q q0u q16 q23 q24 k = true ∧ zjp q0j q0m q0l q0o q0k q0p q0q q0u q16 q23 q24 k = r := by
  unfold zky zjp
  rw [h]
  exact ⟨rfl, rfl⟩
noncomputable def zf5 {R : Type} (q0j : Nat) (q0m : List Nat) (q0l : Nat) (q0o : List Nat) (q0k : Nat) (q0p : List Nat) (q0q : Nat) (q0u : List Nat) (q16 : Int) (q23 : Nat) (q24 : Nat) (k_ : Nat → Nat → Nat → Nat → (List Nat) → (List Nat) → (List Nat) → (List Nat) → Option R) : Option R := (grd (zkx q0j (pF q0m 0 (muN q0j 1)) q0l (pF q0o 0 (muN q0l 1)) q0k (pF q0p 0 (muN q0k 1))) (grd (zjs q0q (pF q0u 0 (muN q0q 3))) (k_ (zjm q0j (pF q0m 0 (muN q0j 1)) q0l (pF q0o 0 (muN q0l 1)) q0k (pF q0p 0 (muN q0k 1))) (zjh q0j (pF q0m 0 (muN q0j 1)) q0l (pF q0o 0 (muN q0l 1)) q0k (pF q0p 0 (muN q0k 1))) (zjk q0j (pF q0m 0 (muN q0j 1)) q0l (pF q0o 0 (muN q0l 1)) q0k (pF q0p 0 (muN q0k 1))) (zhz q0q (pF q0u 0 (muN q0q 3))) (zjj q0j (pF q0m 0 (muN q0j 1)) q0l (pF q0o 0 (muN q0l 1)) q0k (pF q0p 0 (muN q0k 1))) (zjo q0j (pF q0m 0 (muN q0j 1)) q0l (pF q0o 0 (muN q0l 1)) q0k (pF q0p 0 (muN q0k 1))) (zjg q0j (pF q0m 0 (muN q0j 1)) q0l (pF q0o 0 (muN q0l 1)) q0k (pF q0p 0 (muN q0k 1))) (zib q0q (pF q0u 0 (muN q0q 3))))))
noncomputable def z7y (q0j : Nat) (q0m : List Nat) (q0l : Nat) (q0o : List Nat) (q0k : Nat) (q0p : List Nat) (q0q : Nat) (q0u : List Nat) (q16 : Int) (q23 : Nat) (q24 : Nat) : Option (Nat × Nat × Nat × Nat × (List Nat) × (List Nat) × (List Nat) × (List Nat)) := zf5 q0j q0m q0l q0o q0k q0p q0q q0u q16 q23 q24 (fun c0_ c1_ c2_ c3_ c4_ c5_ c6_ c7_ => some (c0_, c1_, c2_, c3_, c4_, c5_, c6_, c7_))
theorem zrh {R R' : Type} (o : Option R → Option R') (h0 : o none = none) (q0j : Nat) (q0m : List Nat) (q0l : Nat) (q0o : List Nat) (q0k : Nat) (q0p : List Nat) (q0q : Nat) (q0u : List Nat) (q16 : Int) (q23 : Nat) (q24 : Nat) (k_ : Nat → Nat → Nat → Nat → (List Nat) → (List Nat) → (List Nat) → (List Nat) → Option R) : zf5 q0j q0m q0l q0o q0k q0p q0q q0u q16 q23 q24 (fun c0_ c1_ c2_ c3_ c4_ c5_ c6_ c7_ => o (k_ c0_ c1_ c2_ c3_ c4_ c5_ c6_ c7_)) = o (zf5 q0j q0m q0l q0o q0k q0p q0q q0u q16 q23 q24 k_) := by
  unfold zf5
  repeat (first | refine grd_out h0 ?_ | refine br_out ?_ ?_ | rfl | exact h0.symm)
noncomputable def zjx (q0j : Nat) (q0m : List Nat) (q0l : Nat) (q0o : List Nat) (q0k : Nat) (q0p : List Nat) (q0q : Nat) (q0u : List Nat) (q16 : Int) (q23 : Nat) (q24 : Nat) : Bool := (z7y q0j q0m q0l q0o q0k q0p q0q q0u q16 q23 q24).isSome
noncomputable def zi7 (q0j : Nat) (q0m : List Nat) (q0l : Nat) (q0o : List Nat) (q0k : Nat) (q0p : List Nat) (q0q : Nat) (q0u : List Nat) (q16 : Int) (q23 : Nat) (q24 : Nat) : Nat := ((z7y q0j q0m q0l q0o q0k q0p q0q q0u q16 q23 q24).getD default).1
noncomputable def zhf (q0j : Nat) (q0m : List Nat) (q0l : Nat) (q0o : List Nat) (q0k : Nat) (q0p : List Nat) (q0q : Nat) (q0u : List Nat) (q16 : Int) (q23 : Nat) (q24 : Nat) : Nat := ((z7y q0j q0m q0l q0o q0k q0p q0q q0u q16 q23 q24).getD default).2.1
noncomputable def zgy (q0j : Nat) (q0m : List Nat) (q0l : Nat) (q0o : List Nat) (q0k : Nat) (q0p : List Nat) (q0q : Nat) (q0u : List Nat) (q16 : Int) (q23 : Nat) (q24 : Nat) : Nat := ((z7y q0j q0m q0l q0o q0k q0p q0q q0u q16 q23 q24).getD default).2.2.1
noncomputable def zh9 (q0j : Nat) (q0m : List Nat) (q0l : Nat) (q0o : List Nat) (q0k : Nat) (q0p : List Nat) (q0q : Nat) (q0u : List Nat) (q16 : Int) (q23 : Nat) (q24 : Nat) : Nat := ((z7y q0j q0m q0l q0o q0k q0p q0q q0u q16 q23 q24).getD default).2.2.2.1
noncomputable def zi8 (q0j : Nat) (q0m : List Nat) (q0l : Nat) (q0o : List Nat) (q0k : Nat) (q0p : List Nat) (q0q : Nat) (q0u : List Nat) (q16 : Int) (q23 : Nat) (q24 : Nat) : List Nat := ((z7y q0j q0m q0l q0o q0k q0p q0q q0u q16 q23 q24).getD default).2.2.2.2.1
noncomputable def zhi (q0j : Nat) (q0m : List Nat) (q0l : Nat) (q0o : List Nat) (q0k : Nat) (q0p : List Nat) (q0q : Nat) (q0u : List Nat) (q16 : Int) (q23 : Nat) (q24 : Nat) : List Nat := ((z7y q0j q0m q0l q0o q0k q0p q0q q0u q16 q23 q24).getD default).2.2.2.2.2.1
noncomputable def zia (q0j : Nat) (q0m : List Nat) (q0l : Nat) (q0o : List Nat) (q0k : Nat) (q0p : List Nat) (q0q : Nat) (q0u : List Nat) (q16 : Int) (q23 : Nat) (q24 : Nat) : List Nat := ((z7y q0j q0m q0l q0o q0k q0p q0q q0u q16 q23 q24).getD default).2.2.2.2.2.2.1
noncomputable def zhy (q0j : Nat) (q0m : List Nat) (q0l : Nat) (q0o : List Nat) (q0k : Nat) (q0p : List Nat) (q0q : Nat) (q0u : List Nat) (q16 : Int) (q23 : Nat) (q24 : Nat) : List Nat := ((z7y q0j q0m q0l q0o q0k q0p q0q q0u q16 q23 q24).getD default).2.2.2.2.2.2.2
theorem zt2 {q0j : Nat} {q0m : List Nat} {q0l : Nat} {q0o : List Nat} {q0k : Nat} {q0p : List Nat} {q0q : Nat} {q0u : List Nat} {q16 : Int} {q23 : Nat} {q24 : Nat} {r : Nat × Nat × Nat × Nat × (List Nat) × (List Nat) × (List Nat) × (List Nat)} (h : z7y q0j q0m q0l q0o q0k q0p q0q q0u q16 q23 q24 = some r) : zjx q0j q0m q0l q0o q0k q0p q0q q0u q16 q23 q24 = true ∧ zi7 q0j q0m q0l q0o q0k q0p q0q q0u q16 q23 q24 = r.1 ∧ zhf q0j q0m q0l q0o q0k q0p q0q q0u q16 q23 q24 = r.2.1 ∧ zgy q0j q0m q0l q0o q0k q0p q0q q0u q16 q23 q24 = r.2.2.1 ∧ zh9 q0j q0m q0l q0o q0k q0p q0q q0u q16 q23 q24 = r.2.2.2.1 ∧ zi8 q0j q0m q0l q0o q0k q0p q0q q0u q16 q23 q24 = r.2.2.2.2.1 ∧ zhi q0j q0m q0l q0o q0k q0p q0q q0u q16 q23 q24 = r.2.2.2.2.2.1 ∧ zia q0j q0m q0l q0o q0k q0p q0q q0u q16 q23 q24 = r.2.2.2.2.2.2.1 ∧ zhy q0j q0m q0l q0o q0k q0p q0q q0u q16 q23 q24 = r.2.2.2.2.2.2.2 := by
  unfold zjx zi7 zhf zgy zh9 zi8 zhi zia zhy
  rw [h]
  exact ⟨rfl, rfl, rfl, rfl, rfl, rfl, rfl, rfl, rfl⟩
noncomputable def zjz {R : Type} (q10 : Nat) (q1n : List Nat) (q1a : Nat) (q1s : List Nat) (q19 : Nat) (q1t : List Nat) (k_ : Bool → Option R) : Option R := (br (ltI (Int.ofNat q10) 2) (k_ Bool.false) (br (ltI 24 (Int.ofNat q10)) (k_ Bool.false) (br (neI (Int.ofNat q1a) (Int.ofNat q10)) (k_ Bool.false) (br (neI (Int.ofNat q19) (Int.ofNat q10)) (k_ Bool.false) (grd (zaw (Int.ofNat q10) q1n q1s q1t q10 q1a q19 0) (br (zaa (Int.ofNat q10) q1n q1s q1t q10 q1a q19 0) (k_ Bool.false) (k_ Bool.true)))))))
noncomputable def zkc (q10 : Nat) (q1n : List Nat) (q1a : Nat) (q1s : List Nat) (q19 : Nat) (q1t : List Nat) : Option (Bool) := zjz q10 q1n q1a q1s q19 q1t (fun c0_ => some c0_)
theorem zsc {R R' : Type} (o : Option R → Option R') (h0 : o none = none) (q10 : Nat) (q1n : List Nat) (q1a : Nat) (q1s : List Nat) (q19 : Nat) (q1t : List Nat) (k_ : Bool → Option R) : zjz q10 q1n q1a q1s q19 q1t (fun c0_ => o (k_ c0_)) = o (zjz q10 q1n q1a q1s q19 q1t k_) := by
  unfold zjz
  repeat (first | refine grd_out h0 ?_ | refine br_out ?_ ?_ | rfl | exact h0.symm)
noncomputable def zmn (q10 : Nat) (q1n : List Nat) (q1a : Nat) (q1s : List Nat) (q19 : Nat) (q1t : List Nat) : Bool := (zkc q10 q1n q1a q1s q19 q1t).isSome
noncomputable def zmf (q10 : Nat) (q1n : List Nat) (q1a : Nat) (q1s : List Nat) (q19 : Nat) (q1t : List Nat) : Bool := ((zkc q10 q1n q1a q1s q19 q1t).getD default)
theorem ztd {q10 : Nat} {q1n : List Nat} {q1a : Nat} {q1s : List Nat} {q19 : Nat} {q1t : List Nat} {r : Bool} (h : zkc q10 q1n q1a q1s q19 q1t = some r) : zmn q10 q1n q1a q1s q19 q1t = true ∧ zmf q10 q1n q1a q1s q19 q1t = r := by
  unfold zmn zmf
  rw [h]
  exact ⟨rfl, rfl⟩
noncomputable def zde {R : Type} (a_n : Nat) (a : List Nat) (b_n : Nat) (b : List Nat) (k_ : Bool → Option R) : Option R := (br (neI (Int.ofNat a_n) (Int.ofNat b_n)) (k_ Bool.false) (grd (zcv a_n b_n a b 0) (br (zca a_n b_n a b 0) (k_ Bool.false) (k_ Bool.true))))
noncomputable def zdi (a_n : Nat) (a : List Nat) (b_n : Nat) (b : List Nat) : Option (Bool) := zde a_n a b_n b (fun c0_ => some c0_)
theorem zp5 {R R' : Type} (o : Option R → Option R') (h0 : o none = none) (a_n : Nat) (a : List Nat) (b_n : Nat) (b : List Nat) (k_ : Bool → Option R) : zde a_n a b_n b (fun c0_ => o (k_ c0_)) = o (zde a_n a b_n b k_) := by
  unfold zde
  repeat (first | refine grd_out h0 ?_ | refine br_out ?_ ?_ | rfl | exact h0.symm)
noncomputable def zjv (a_n : Nat) (a : List Nat) (b_n : Nat) (b : List Nat) : Bool := (zdi a_n a b_n b).isSome
noncomputable def zh4 (a_n : Nat) (a : List Nat) (b_n : Nat) (b : List Nat) : Bool := ((zdi a_n a b_n b).getD default)
theorem zmv {a_n : Nat} {a : List Nat} {b_n : Nat} {b : List Nat} {r : Bool} (h : zdi a_n a b_n b = some r) : zjv a_n a b_n b = true ∧ zh4 a_n a b_n b = r := by
  unfold zjv zh4
  rw [h]
  exact ⟨rfl, rfl⟩
noncomputable def z5y {R : Type} (s_n : Nat) (s : List Nat) (k_ : Int → Option R) : Option R := (grd (z5i s_n (Int.ofNat s_n) s 0) (br (z5h s_n (Int.ofNat s_n) s 0) (k_ (z6o s_n (Int.ofNat s_n) s 0)) (k_ (Int.negSucc 0))))
noncomputable def z5x (s_n : Nat) (s : List Nat) : Option (Int) := z5y s_n s (fun c0_ => some c0_)
theorem zj3 {R R' : Type} (o : Option R → Option R') (h0 : o none = none) (s_n : Nat) (s : List Nat) (k_ : Int → Option R) : z5y s_n s (fun c0_ => o (k_ c0_)) = o (z5y s_n s k_) := by
  unfold z5y
  repeat (first | refine grd_out h0 ?_ | refine br_out ?_ ?_ | rfl | exact h0.symm)
noncomputable def z80 (s_n : Nat) (s : List Nat) : Bool := (z5x s_n s).isSome
noncomputable def z7x (s_n : Nat) (s : List Nat) : Int := ((z5x s_n s).getD default)
theorem zl4 {s_n : Nat} {s : List Nat} {r : Int} (h : z5x s_n s = some r) : z80 s_n s = true ∧ z7x s_n s = r := by
  unfold z80 z7x
  rw [h]
  exact ⟨rfl, rfl⟩
noncomputable def z5s {R : Type} (s_n : Nat) (s : List Nat) (k_ : Int → Option R) : Option R := (grd (z5b s_n (Int.ofNat s_n) s 0) (br (z5a s_n (Int.ofNat s_n) s 0) (k_ (z6b s_n (Int.ofNat s_n) s 0)) (k_ (Int.negSucc 0))))
noncomputable def z5q (s_n : Nat) (s : List Nat) : Option (Int) := z5s s_n s (fun c0_ => some c0_)
theorem zid {R R' : Type} (o : Option R → Option R') (h0 : o none = none) (s_n : Nat) (s : List Nat) (k_ : Int → Option R) : z5s s_n s (fun c0_ => o (k_ c0_)) = o (z5s s_n s k_) := by
  unfold z5s
  repeat (first | refine grd_out h0 ?_ | refine br_out ?_ ?_ | rfl | exact h0.symm)
noncomputable def z7k (s_n : Nat) (s : List Nat) : Bool := (z5q s_n s).isSome
noncomputable def z7h (s_n : Nat) (s : List Nat) : Int := ((z5q s_n s).getD default)
theorem zk2 {s_n : Nat} {s : List Nat} {r : Int} (h : z5q s_n s = some r) : z7k s_n s = true ∧ z7h s_n s = r := by
  unfold z7k z7h
  rw [h]
  exact ⟨rfl, rfl⟩
noncomputable def z4o {R : Type} (sn : Nat) (t7 : Int) (b0 : List Nat) (t8 : Int) (kn_ : Int → Option R) (k0_ : Int → Option R) (k1_ : Int → Bool → Option R) : Option R := (br (ltI t8 t7) (grd (okIx t8 sn) (grd (zju (gF b0 (ixO 0 t8 1))) (br (zho (gF b0 (ixO 0 t8 1))) (k0_ t8) (kn_ (addI IntKind.i64 t8 1))))) (k1_ t8 (ltI t8 t7)))
theorem zi2 {R R' : Type} (o : Option R → Option R') (h0 : o none = none) (sn : Nat) (t7 : Int) (b0 : List Nat) (t8 : Int) (kn_ : Int → Option R) (k0_ : Int → Option R) (k1_ : Int → Bool → Option R) : z4o sn t7 b0 t8 (fun t8' => o (kn_ t8')) (fun c0_ => o (k0_ c0_)) (fun c0_ c1_ => o (k1_ c0_ c1_)) = o (z4o sn t7 b0 t8 kn_ k0_ k1_) := by
  unfold z4o
  repeat (first | refine grd_out h0 ?_ | refine br_out ?_ ?_ | rfl | exact h0.symm)
noncomputable def z2i (sn : Nat) (t7 : Int) (b0 : List Nat) : Nat → Int → Option ((Int) ⊕ (Int × Bool))
  | 0, _ => none
  | n + 1, t8 => z4o sn t7 b0  t8  (fun t8' => z2i sn t7 b0 n t8') (fun c0_ => some (Sum.inl c0_)) (fun c0_ c1_ => some (Sum.inr (c0_, c1_)))
theorem zai (sn : Nat) (t7 : Int) (b0 : List Nat) (n : Nat) (t8 : Int) : z2i sn t7 b0 (n + 1) t8 = z4o sn t7 b0  t8  (fun t8' => z2i sn t7 b0 n t8') (fun c0_ => some (Sum.inl c0_)) (fun c0_ c1_ => some (Sum.inr (c0_, c1_))) := rfl
noncomputable def z5o (sn : Nat) (t7 : Int) (b0 : List Nat) (t8 : Int) : Bool := (z2i sn t7 b0 big t8).isSome
noncomputable def z5l (sn : Nat) (t7 : Int) (b0 : List Nat) (t8 : Int) : Bool := oL (z2i sn t7 b0 big t8)
noncomputable def z6w (sn : Nat) (t7 : Int) (b0 : List Nat) (t8 : Int) : Int := ((tL (z2i sn t7 b0 big t8)).getD default)
noncomputable def z90 (sn : Nat) (t7 : Int) (b0 : List Nat) (t8 : Int) : Int := ((tR (z2i sn t7 b0 big t8)).getD default).1
noncomputable def z8z (sn : Nat) (t7 : Int) (b0 : List Nat) (t8 : Int) : Bool := ((tR (z2i sn t7 b0 big t8)).getD default).2
theorem ziu {sn : Nat} {t7 : Int} {b0 : List Nat} {t8 : Int} {m : Nat} {r : Int} (hm : m = big) (h : z2i sn t7 b0 m t8 = some (Sum.inl r)) : z5o sn t7 b0 t8 = true ∧ z5l sn t7 b0 t8 = true ∧ z6w sn t7 b0 t8 = r := by
  subst hm
  unfold z5o z5l z6w
  rw [h]
  exact ⟨rfl, rfl, rfl⟩
theorem zj4 {sn : Nat} {t7 : Int} {b0 : List Nat} {t8 : Int} {m : Nat} {r : Int × Bool} (hm : m = big) (h : z2i sn t7 b0 m t8 = some (Sum.inr r)) : z5o sn t7 b0 t8 = true ∧ z5l sn t7 b0 t8 = false ∧ z90 sn t7 b0 t8 = r.1 ∧ z8z sn t7 b0 t8 = r.2 := by
  subst hm
  unfold z5o z5l z90 z8z
  rw [h]
  exact ⟨rfl, rfl, rfl, rfl⟩
noncomputable def ze2 {R : Type} (q0j : Nat) (q0m : List Nat) (q0l : Nat) (q0o : List Nat) (q0k : Nat) (q0p : List Nat) (q0q : Nat) (q0u : List Nat) (q16 : Int) (q23 : Nat) (q24 : Nat) (q29 : Nat) (q2d : List Nat) (q2b : Nat) (q2e : List Nat) (q2a : Nat) (q2f : List Nat) (q2q : Nat) (q33 : List Nat) (q3g : Int) (q3i : Nat) (q3h : Nat) (k_ : Bool → Option R) : Option R := (grd (zkw q0j (pF q0m 0 (muN q0j 1)) q0l (pF q0o 0 (muN q0l 1)) q0k (pF q0p 0 (muN q0k 1)) q29 (pF q2d 0 (muN q29 1)) q2b (pF q2e 0 (muN q2b 1)) q2a (pF q2f 0 (muN q2a 1))) (br (bnot (zji q0j (pF q0m 0 (muN q0j 1)) q0l (pF q0o 0 (muN q0l 1)) q0k (pF q0p 0 (muN q0k 1)) q29 (pF q2d 0 (muN q29 1)) q2b (pF q2e 0 (muN q2b 1)) q2a (pF q2f 0 (muN q2a 1)))) (k_ Bool.false) (grd (zjv q0q (pF q0u 0 (muN q0q 3)) q2q (pF q33 0 (muN q2q 3))) (br (bnot (zh4 q0q (pF q0u 0 (muN q0q 3)) q2q (pF q33 0 (muN q2q 3)))) (k_ Bool.false) (br (neI q16 q3g) (k_ Bool.false) (grd (z9h (fcvV FloatKind.f32 FloatKind.f64 q23) (fcvV FloatKind.f32 FloatKind.f64 q3i)) (br (bnot (z97 (fcvV FloatKind.f32 FloatKind.f64 q23) (fcvV FloatKind.f32 FloatKind.f64 q3i))) (k_ Bool.false) (grd (z9h (fcvV FloatKind.f32 FloatKind.f64 q24) (fcvV FloatKind.f32 FloatKind.f64 q3h)) (br (bnot (z97 (fcvV FloatKind.f32 FloatKind.f64 q24) (fcvV FloatKind.f32 FloatKind.f64 q3h))) (k_ Bool.false) (k_ Bool.true))))))))))
noncomputable def zc6 (q0j : Nat) (q0m : List Nat) (q0l : Nat) (q0o : List Nat) (q0k : Nat) (q0p : List Nat) (q0q : Nat) (q0u : List Nat) (q16 : Int) (q23 : Nat) (q24 : Nat) (q29 : Nat) (q2d : List Nat) (q2b : Nat) (q2e : List Nat) (q2a : Nat) (q2f : List Nat) (q2q : Nat) (q33 : List Nat) (q3g : Int) (q3i : Nat) (q3h : Nat) : Option (Bool) := ze2 q0j q0m q0l q0o q0k q0p q0q q0u q16 q23 q24 q29 q2d q2b q2e q2a q2f q2q q33 q3g q3i q3h (fun c0_ => some c0_)
theorem zrj {R R' : Type} (o : Option R → Option R') (h0 : o none = none) (q0j : Nat) (q0m : List Nat) (q0l : Nat) (q0o : List Nat) (q0k : Nat) (q0p : List Nat) (q0q : Nat) (q0u : List Nat) (q16 : Int) (q23 : Nat) (q24 : Nat) (q29 : Nat) (q2d : List Nat) (q2b : Nat) (q2e : List Nat) (q2a : Nat) (q2f : List Nat) (q2q : Nat) (q33 : List Nat) (q3g : Int) (q3i : Nat) (q3h : Nat) (k_ : Bool → Option R) : ze2 q0j q0m q0l q0o q0k q0p q0q q0u q16 q23 q24 q29 q2d q2b q2e q2a q2f q2q q33 q3g q3i q3h (fun c0_ => o (k_ c0_)) = o (ze2 q0j q0m q0l q0o q0k q0p q0q q0u q16 q23 q24 q29 q2d q2b q2e q2a q2f q2q q33 q3g q3i q3h k_) := by
  unfold ze2
  repeat (first | refine grd_out h0 ?_ | refine br_out ?_ ?_ | rfl | exact h0.symm)
noncomputable def zf9 (q0j : Nat) (q0m : List Nat) (q0l : Nat) (q0o : List Nat) (q0k : Nat) (q0p : List Nat) (q0q : Nat) (q0u : List Nat) (q16 : Int) (q23 : Nat) (q24 : Nat) (q29 : Nat) (q2d : List Nat) (q2b : Nat) (q2e : List Nat) (q2a : Nat) (q2f : List Nat) (q2q : Nat) (q33 : List Nat) (q3g : Int) (q3i : Nat) (q3h : Nat) : Bool := (zc6 q0j q0m q0l q0o q0k q0p q0q q0u q16 q23 q24 q29 q2d q2b q2e q2a q2f q2q q33 q3g q3i q3h).isSome
noncomputable def zea (q0j : Nat) (q0m : List Nat) (q0l : Nat) (q0o : List Nat) (q0k : Nat) (q0p : List Nat) (q0q : Nat) (q0u : List Nat) (q16 : Int) (q23 : Nat) (q24 : Nat) (q29 : Nat) (q2d : List Nat) (q2b : Nat) (q2e : List Nat) (q2a : Nat) (q2f : List Nat) (q2q : Nat) (q33 : List Nat) (q3g : Int) (q3i : Nat) (q3h : Nat) : Bool := ((zc6 q0j q0m q0l q0o q0k q0p q0q q0u q16 q23 q24 q29 q2d q2b q2e q2a q2f q2q q33 q3g q3i q3h).getD default)
theorem zoj {q0j : Nat} {q0m : List Nat} {q0l : Nat} {q0o : List Nat} {q0k : Nat} {q0p : List Nat} {q0q : Nat} {q0u : List Nat} {q16 : Int} {q23 : Nat} {q24 : Nat} {q29 : Nat} {q2d : List Nat} {q2b : Nat} {q2e : List Nat} {q2a : Nat} {q2f : List Nat} {q2q : Nat} {q33 : List Nat} {q3g : Int} {q3i : Nat} {q3h : Nat} {r : Bool} (h : zc6 q0j q0m q0l q0o q0k q0p q0q q0u q16 q23 q24 q29 q2d q2b q2e q2a q2f q2q q33 q3g q3i q3h = some r) : zf9 q0j q0m q0l q0o q0k q0p q0q q0u q16 q23 q24 q29 q2d q2b q2e q2a q2f q2q q33 q3g q3i q3h = true ∧ zea q0j q0m q0l q0o q0k q0p q0q q0u q16 q23 q24 q29 q2d q2b q2e q2a q2f q2q q33 q3g q3i q3h = r := by
  unfold zf9 zea
  rw [h]
  exact ⟨rfl, rfl⟩
noncomputable def z60 {R : Type} (s_n : Nat) (s : List Nat) (k_ : Int → Option R) : Option R := (grd (z5o s_n (Int.ofNat s_n) s 0) (br (z5l s_n (Int.ofNat s_n) s 0) (k_ (z6w s_n (Int.ofNat s_n) s 0)) (k_ (Int.negSucc 0))))
noncomputable def z61 (s_n : Nat) (s : List Nat) : Option (Int) := z60 s_n s (fun c0_ => some c0_)
theorem zk9 {R R' : Type} (o : Option R → Option R') (h0 : o none = none) (s_n : Nat) (s : List Nat) (k_ : Int → Option R) : z60 s_n s (fun c0_ => o (k_ c0_)) = o (z60 s_n s k_) := by
  unfold z60
  repeat (first | refine grd_out h0 ?_ | refine br_out ?_ ?_ | rfl | exact h0.symm)
noncomputable def z83 (s_n : Nat) (s : List Nat) : Bool := (z61 s_n s).isSome
noncomputable def z7z (s_n : Nat) (s : List Nat) : Int := ((z61 s_n s).getD default)
theorem zl8 {s_n : Nat} {s : List Nat} {r : Int} (h : z61 s_n s = some r) : z83 s_n s = true ∧ z7z s_n s = r := by
  unfold z83 z7z
  rw [h]
  exact ⟨rfl, rfl⟩
noncomputable def z5k {R : Type} (s_n : Nat) (s : List Nat) (k_ : Bool → Option R) : Option R := (grd (z80 s_n (pF s 0 (muN s_n 1))) (k_ (leI 0 (z7x s_n (pF s 0 (muN s_n 1))))))
noncomputable def z5j (s_n : Nat) (s : List Nat) : Option (Bool) := z5k s_n s (fun c0_ => some c0_)
theorem zgl {R R' : Type} (o : Option R → Option R') (h0 : o none = none) (s_n : Nat) (s : List Nat) (k_ : Bool → Option R) : z5k s_n s (fun c0_ => o (k_ c0_)) = o (z5k s_n s k_) := by
  unfold z5k
  repeat (first | refine grd_out h0 ?_ | refine br_out ?_ ?_ | rfl | exact h0.symm)
noncomputable def z7g (s_n : Nat) (s : List Nat) : Bool := (z5j s_n s).isSome
noncomputable def z77 (s_n : Nat) (s : List Nat) : Bool := ((z5j s_n s).getD default)
theorem zja {s_n : Nat} {s : List Nat} {r : Bool} (h : z5j s_n s = some r) : z7g s_n s = true ∧ z77 s_n s = r := by
  unfold z7g z77
  rw [h]
  exact ⟨rfl, rfl⟩
noncomputable def z5r {R : Type} (s_n : Nat) (s : List Nat) (k_ : Bool → Option R) : Option R := (grd (z83 s_n (pF s 0 (muN s_n 1))) (k_ (leI 0 (z7z s_n (pF s 0 (muN s_n 1))))))
noncomputable def z5n (s_n : Nat) (s : List Nat) : Option (Bool) := z5r s_n s (fun c0_ => some c0_)
theorem zhl {R R' : Type} (o : Option R → Option R') (h0 : o none = none) (s_n : Nat) (s : List Nat) (k_ : Bool → Option R) : z5r s_n s (fun c0_ => o (k_ c0_)) = o (z5r s_n s k_) := by
  unfold z5r
  repeat (first | refine grd_out h0 ?_ | refine br_out ?_ ?_ | rfl | exact h0.symm)
noncomputable def z7l (s_n : Nat) (s : List Nat) : Bool := (z5n s_n s).isSome
noncomputable def z7f (s_n : Nat) (s : List Nat) : Bool := ((z5n s_n s).getD default)
theorem zke {s_n : Nat} {s : List Nat} {r : Bool} (h : z5n s_n s = some r) : z7l s_n s = true ∧ z7f s_n s = r := by
  unfold z7l z7f
  rw [h]
  exact ⟨rfl, rfl⟩
noncomputable def z5d {R : Type} (s_n : Nat) (s : List Nat) (k_ : Bool → Option R) : Option R := (grd (z7k s_n (pF s 0 (muN s_n 1))) (k_ (leI 0 (z7h s_n (pF s 0 (muN s_n 1))))))
noncomputable def z5e (s_n : Nat) (s : List Nat) : Option (Bool) := z5d s_n s (fun c0_ => some c0_)
theorem zfl {R R' : Type} (o : Option R → Option R') (h0 : o none = none) (s_n : Nat) (s : List Nat) (k_ : Bool → Option R) : z5d s_n s (fun c0_ => o (k_ c0_)) = o (z5d s_n s k_) := by
  unfold z5d
  repeat (first | refine grd_out h0 ?_ | refine br_out ?_ ?_ | rfl | exact h0.symm)
noncomputable def z6x (s_n : Nat) (s : List Nat) : Bool := (z5e s_n s).isSome
noncomputable def z6n (s_n : Nat) (s : List Nat) : Bool := ((z5e s_n s).getD default)
theorem zh0 {s_n : Nat} {s : List Nat} {r : Bool} (h : z5e s_n s = some r) : z6x s_n s = true ∧ z6n s_n s = r := by
  unfold z6x z6n
  rw [h]
  exact ⟨rfl, rfl⟩
noncomputable def za1 {R : Type} (t57 : Int) (b3 : List Nat) (q0w : Nat) (q0y : Nat) (t4 : Nat) (t58 : Int) (kn_ : Nat → Int → Option R) (k0_ : Unit → Option R) (k1_ : Nat → Int → Bool → Option R) : Option R := (br (ltI t58 t57) (grd (okIx t58 q0w) (br (bnot (fcmp BinOp.gtr FloatKind.f32 (gF b3 (ixO 0 t58 3)) t4)) (k0_ ()) (br (bnot (fcmp BinOp.lss FloatKind.f32 (gF b3 (ixO 0 t58 3)) q0y)) (k0_ ()) (grd (zlc (gF b3 (Nat.succ (ixO 0 t58 3)))) (br (bnot (zl7 (gF b3 (Nat.succ (ixO 0 t58 3))))) (k0_ ()) (grd (z81 (gF b3 (Nat.succ (Nat.succ (ixO 0 t58 3))))) (br (bnot (z7p (gF b3 (Nat.succ (Nat.succ (ixO 0 t58 3)))))) (k0_ ()) (kn_ (gF b3 (ixO 0 t58 3)) (addI IntKind.i64 t58 1))))))))) (k1_ t4 t58 (ltI t58 t57)))
theorem zqy {R R' : Type} (o : Option R → Option R') (h0 : o none = none) (t57 : Int) (b3 : List Nat) (q0w : Nat) (q0y : Nat) (t4 : Nat) (t58 : Int) (kn_ : Nat → Int → Option R) (k0_ : Unit → Option R) (k1_ : Nat → Int → Bool → Option R) : za1 t57 b3 q0w q0y t4 t58 (fun t4' t58' => o (kn_ t4' t58')) (fun _ => o (k0_ ())) (fun c0_ c1_ c2_ => o (k1_ c0_ c1_ c2_)) = o (za1 t57 b3 q0w q0y t4 t58 kn_ k0_ k1_) := by
  unfold za1
  repeat (first | refine grd_out h0 ?_ | refine br_out ?_ ?_ | rfl | exact h0.symm)
noncomputable def z5z (t57 : Int) (b3 : List Nat) (q0w : Nat) (q0y : Nat) : Nat → Nat → Int → Option ((Unit) ⊕ (Nat × Int × Bool))
  | 0, _, _ => none
  | n + 1, t4, t58 => za1 t57 b3 q0w q0y  t4 t58  (fun t4' t58' => z5z t57 b3 q0w q0y n t4' t58') (fun _ => some (Sum.inl ())) (fun c0_ c1_ c2_ => some (Sum.inr (c0_, c1_, c2_)))
theorem zml (t57 : Int) (b3 : List Nat) (q0w : Nat) (q0y : Nat) (n : Nat) (t4 : Nat) (t58 : Int) : z5z t57 b3 q0w q0y (n + 1) t4 t58 = za1 t57 b3 q0w q0y  t4 t58  (fun t4' t58' => z5z t57 b3 q0w q0y n t4' t58') (fun _ => some (Sum.inl ())) (fun c0_ c1_ c2_ => some (Sum.inr (c0_, c1_, c2_))) := rfl
noncomputable def zcs (t57 : Int) (b3 : List Nat) (q0w : Nat) (q0y : Nat) (t4 : Nat) (t58 : Int) : Bool := (z5z t57 b3 q0w q0y big t4 t58).isSome
noncomputable def zc3 (t57 : Int) (b3 : List Nat) (q0w : Nat) (q0y : Nat) (t4 : Nat) (t58 : Int) : Bool := oL (z5z t57 b3 q0w q0y big t4 t58)
noncomputable def zln (t57 : Int) (b3 : List Nat) (q0w : Nat) (q0y : Nat) (t4 : Nat) (t58 : Int) : Nat := ((tR (z5z t57 b3 q0w q0y big t4 t58)).getD default).1
noncomputable def zlx (t57 : Int) (b3 : List Nat) (q0w : Nat) (q0y : Nat) (t4 : Nat) (t58 : Int) : Int := ((tR (z5z t57 b3 q0w q0y big t4 t58)).getD default).2.1
noncomputable def zlr (t57 : Int) (b3 : List Nat) (q0w : Nat) (q0y : Nat) (t4 : Nat) (t58 : Int) : Bool := ((tR (z5z t57 b3 q0w q0y big t4 t58)).getD default).2.2
theorem zs1 {t57 : Int} {b3 : List Nat} {q0w : Nat} {q0y : Nat} {t4 : Nat} {t58 : Int} {m : Nat} {r : Unit} (hm : m = big) (h : z5z t57 b3 q0w q0y m t4 t58 = some (Sum.inl r)) : zcs t57 b3 q0w q0y t4 t58 = true ∧ zc3 t57 b3 q0w q0y t4 t58 = true := by
  subst hm
  unfold zcs zc3
  rw [h]
  exact ⟨rfl, rfl⟩
theorem zry {t57 : Int} {b3 : List Nat} {q0w : Nat} {q0y : Nat} {t4 : Nat} {t58 : Int} {m : Nat} {r : Nat × Int × Bool} (hm : m = big) (h : z5z t57 b3 q0w q0y m t4 t58 = some (Sum.inr r)) : zcs t57 b3 q0w q0y t4 t58 = true ∧ zc3 t57 b3 q0w q0y t4 t58 = false ∧ zln t57 b3 q0w q0y t4 t58 = r.1 ∧ zlx t57 b3 q0w q0y t4 t58 = r.2.1 ∧ zlr t57 b3 q0w q0y t4 t58 = r.2.2 := by
  subst hm
  unfold zcs zc3 zln zlx zlr
  rw [h]
  exact ⟨rfl, rfl, rfl, rfl, rfl⟩
noncomputable def zjy {R : Type} (q00 : Nat) (q03 : List Nat) (q01 : Nat) (q04 : List Nat) (q02 : Nat) (q05 : List Nat) (q06 : Nat) (q07 : List Nat) (q09 : Int) (q0c : Nat) (q0d : Nat) (k_ : Bool → Option R) : Option R := (grd (zmn q00 (pF q03 0 (muN q00 1)) q01 (pF q04 0 (muN q01 1)) q02 (pF q05 0 (muN q02 1))) (br (bnot (zmf q00 (pF q03 0 (muN q00 1)) q01 (pF q04 0 (muN q01 1)) q02 (pF q05 0 (muN q02 1)))) (k_ Bool.false) (br (ltI (Int.ofNat q06) 2) (k_ Bool.false) (br (ltI 12 (Int.ofNat q06)) (k_ Bool.false) (grd (zmj q09 1 6) (br (bnot (zmg q09 1 6)) (k_ Bool.false) (grd (zas q0c) (br (bnot (zab q0c)) (k_ Bool.false) (grd (z81 q0d) (br (bnot (z7p q0d)) (k_ Bool.false) (grd (zcs (Int.ofNat q06) q07 q06 q0d q0c 0) (br (zc3 (Int.ofNat q06) q07 q06 q0d q0c 0) (k_ Bool.false) (k_ Bool.true)))))))))))))
noncomputable def zk3 (q00 : Nat) (q03 : List Nat) (q01 : Nat) (q04 : List Nat) (q02 : Nat) (q05 : List Nat) (q06 : Nat) (q07 : List Nat) (q09 : Int) (q0c : Nat) (q0d : Nat) : Option (Bool) := zjy q00 q03 q01 q04 q02 q05 q06 q07 q09 q0c q0d (fun c0_ => some c0_)
theorem zsa {R R' : Type} (o : Option R → Option R') (h0 : o none = none) (q00 : Nat) (q03 : List Nat) (q01 : Nat) (q04 : List Nat) (q02 : Nat) (q05 : List Nat) (q06 : Nat) (q07 : List Nat) (q09 : Int) (q0c : Nat) (q0d : Nat) (k_ : Bool → Option R) : zjy q00 q03 q01 q04 q02 q05 q06 q07 q09 q0c q0d (fun c0_ => o (k_ c0_)) = o (zjy q00 q03 q01 q04 q02 q05 q06 q07 q09 q0c q0d k_) := by
  unfold zjy
  repeat (first | refine grd_out h0 ?_ | refine br_out ?_ ?_ | rfl | exact h0.symm)
noncomputable def zlq (q00 : Nat) (q03 : List Nat) (q01 : Nat) (q04 : List Nat) (q02 : Nat) (q05 : List Nat) (q06 : Nat) (q07 : List Nat) (q09 : Int) (q0c : Nat) (q0d : Nat) : Bool := (zk3 q00 q03 q01 q04 q02 q05 q06 q07 q09 q0c q0d).isSome
noncomputable def zla (q00 : Nat) (q03 : List Nat) (q01 : Nat) (q04 : List Nat) (q02 : Nat) (q05 : List Nat) (q06 : Nat) (q07 : List Nat) (q09 : Int) (q0c : Nat) (q0d : Nat) : Bool := ((zk3 q00 q03 q01 q04 q02 q05 q06 q07 q09 q0c q0d).getD default)
theorem zqq {q00 : Nat} {q03 : List Nat} {q01 : Nat} {q04 : List Nat} {q02 : Nat} {q05 : List Nat} {q06 : Nat} {q07 : List Nat} {q09 : Int} {q0c : Nat} {q0d : Nat} {r : Bool} (h : zk3 q00 q03 q01 q04 q02 q05 q06 q07 q09 q0c q0d = some r) : zlq q00 q03 q01 q04 q02 q05 q06 q07 q09 q0c q0d = true ∧ zla q00 q03 q01 q04 q02 q05 q06 q07 q09 q0c q0d = r := by
  unfold zlq zla
  rw [h]
  exact ⟨rfl, rfl⟩
noncomputable def zdw {R : Type} (q28 : Nat) (q2u : List Nat) (k_ : Bool → Option R) : Option R := (grd (z7g q28 (pF q2u 0 (muN q28 1))) (k_ (bnot (z77 q28 (pF q2u 0 (muN q28 1))))))
noncomputable def zdt (q28 : Nat) (q2u : List Nat) : Option (Bool) := zdw q28 q2u (fun c0_ => some c0_)
theorem zql {R R' : Type} (o : Option R → Option R') (h0 : o none = none) (q28 : Nat) (q2u : List Nat) (k_ : Bool → Option R) : zdw q28 q2u (fun c0_ => o (k_ c0_)) = o (zdw q28 q2u k_) := by
  unfold zdw
  repeat (first | refine grd_out h0 ?_ | refine br_out ?_ ?_ | rfl | exact h0.symm)
noncomputable def zl5 (q28 : Nat) (q2u : List Nat) : Bool := (zdt q28 q2u).isSome
noncomputable def zjt (q28 : Nat) (q2u : List Nat) : Bool := ((zdt q28 q2u).getD default)
theorem zs0 {q28 : Nat} {q2u : List Nat} {r : Bool} (h : zdt q28 q2u = some r) : zl5 q28 q2u = true ∧ zjt q28 q2u = r := by
  unfold zl5 zjt
  rw [h]
  exact ⟨rfl, rfl⟩
noncomputable def zef {R : Type} (q28 : Nat) (q2u : List Nat) (k_ : Bool → Option R) : Option R := (grd (z7l q28 (pF q2u 0 (muN q28 1))) (k_ (bnot (z7f q28 (pF q2u 0 (muN q28 1))))))
noncomputable def zei (q28 : Nat) (q2u : List Nat) : Option (Bool) := zef q28 q2u (fun c0_ => some c0_)
theorem zqw {R R' : Type} (o : Option R → Option R') (h0 : o none = none) (q28 : Nat) (q2u : List Nat) (k_ : Bool → Option R) : zef q28 q2u (fun c0_ => o (k_ c0_)) = o (zef q28 q2u k_) := by
  unfold zef
  repeat (first | refine grd_out h0 ?_ | refine br_out ?_ ?_ | rfl | exact h0.symm)
noncomputable def zle (q28 : Nat) (q2u : List Nat) : Bool := (zei q28 q2u).isSome
noncomputable def zl1 (q28 : Nat) (q2u : List Nat) : Bool := ((zei q28 q2u).getD default)
theorem zsh {q28 : Nat} {q2u : List Nat} {r : Bool} (h : zei q28 q2u = some r) : zle q28 q2u = true ∧ zl1 q28 q2u = r := by
  unfold zle zl1
  rw [h]
  exact ⟨rfl, rfl⟩
noncomputable def zc9 {R : Type} (q28 : Nat) (q2u : List Nat) (k_ : Bool → Option R) : Option R := (grd (z6x q28 (pF q2u 0 (muN q28 1))) (k_ (bnot (z6n q28 (pF q2u 0 (muN q28 1))))))
noncomputable def za9 (q28 : Nat) (q2u : List Nat) : Option (Bool) := zc9 q28 q2u (fun c0_ => some c0_)
theorem zos {R R' : Type} (o : Option R → Option R') (h0 : o none = none) (q28 : Nat) (q2u : List Nat) (k_ : Bool → Option R) : zc9 q28 q2u (fun c0_ => o (k_ c0_)) = o (zc9 q28 q2u k_) := by
  unfold zc9
  repeat (first | refine grd_out h0 ?_ | refine br_out ?_ ?_ | rfl | exact h0.symm)
noncomputable def ze7 (q28 : Nat) (q2u : List Nat) : Bool := (za9 q28 q2u).isSome
noncomputable def zdn (q28 : Nat) (q2u : List Nat) : Bool := ((za9 q28 q2u).getD default)
theorem zr0 {q28 : Nat} {q2u : List Nat} {r : Bool} (h : za9 q28 q2u = some r) : ze7 q28 q2u = true ∧ zdn q28 q2u = r := by
  unfold ze7 zdn
  rw [h]
  exact ⟨rfl, rfl⟩
noncomputable def z6s {R : Type} (q3a : Nat) (t43 : Int) (b0 : List Nat) (q27 : Nat) (t44 : Int) (kn_ : Int → Option R) (k0_ : Unit → Option R) (k1_ : Int → Bool → Option R) : Option R := (br (ltI t44 t43) (grd (okIx t44 q3a) (grd (zlk (gF b0 (ixO 0 t44 1)) 3204448256 1056964608) (br (bnot (zl2 (gF b0 (ixO 0 t44 1)) 3204448256 1056964608)) (k0_ ()) (br (ltI 0 t44) (grd (okIx (subI IntKind.i64 t44 1) q27) (br (fcmp BinOp.geq FloatKind.f32 (gF b0 (ixO 0 (subI IntKind.i64 t44 1) 1)) (gF b0 (ixO 0 t44 1))) (k0_ ()) (kn_ (addI IntKind.i64 t44 1)))) (kn_ (addI IntKind.i64 t44 1)))))) (k1_ t44 (ltI t44 t43)))
theorem zn1 {R R' : Type} (o : Option R → Option R') (h0 : o none = none) (q3a : Nat) (t43 : Int) (b0 : List Nat) (q27 : Nat) (t44 : Int) (kn_ : Int → Option R) (k0_ : Unit → Option R) (k1_ : Int → Bool → Option R) : z6s q3a t43 b0 q27 t44 (fun t44' => o (kn_ t44')) (fun _ => o (k0_ ())) (fun c0_ c1_ => o (k1_ c0_ c1_)) = o (z6s q3a t43 b0 q27 t44 kn_ k0_ k1_) := by
  unfold z6s
  repeat (first | refine grd_out h0 ?_ | refine br_out ?_ ?_ | rfl | exact h0.symm)
noncomputable def z5c (q3a : Nat) (t43 : Int) (b0 : List Nat) (q27 : Nat) : Nat → Int → Option ((Unit) ⊕ (Int × Bool))
  | 0, _ => none
  | n + 1, t44 => z6s q3a t43 b0 q27  t44  (fun t44' => z5c q3a t43 b0 q27 n t44') (fun _ => some (Sum.inl ())) (fun c0_ c1_ => some (Sum.inr (c0_, c1_)))
theorem zks (q3a : Nat) (t43 : Int) (b0 : List Nat) (q27 : Nat) (n : Nat) (t44 : Int) : z5c q3a t43 b0 q27 (n + 1) t44 = z6s q3a t43 b0 q27  t44  (fun t44' => z5c q3a t43 b0 q27 n t44') (fun _ => some (Sum.inl ())) (fun c0_ c1_ => some (Sum.inr (c0_, c1_))) := rfl
noncomputable def z91 (q3a : Nat) (t43 : Int) (b0 : List Nat) (q27 : Nat) (t44 : Int) : Bool := (z5c q3a t43 b0 q27 big t44).isSome
noncomputable def z8c (q3a : Nat) (t43 : Int) (b0 : List Nat) (q27 : Nat) (t44 : Int) : Bool := oL (z5c q3a t43 b0 q27 big t44)
noncomputable def zev (q3a : Nat) (t43 : Int) (b0 : List Nat) (q27 : Nat) (t44 : Int) : Int := ((tR (z5c q3a t43 b0 q27 big t44)).getD default).1
noncomputable def zer (q3a : Nat) (t43 : Int) (b0 : List Nat) (q27 : Nat) (t44 : Int) : Bool := ((tR (z5c q3a t43 b0 q27 big t44)).getD default).2
theorem znn {q3a : Nat} {t43 : Int} {b0 : List Nat} {q27 : Nat} {t44 : Int} {m : Nat} {r : Unit} (hm : m = big) (h : z5c q3a t43 b0 q27 m t44 = some (Sum.inl r)) : z91 q3a t43 b0 q27 t44 = true ∧ z8c q3a t43 b0 q27 t44 = true := by
  subst hm
  unfold z91 z8c
  rw [h]
  exact ⟨rfl, rfl⟩
theorem zo0 {q3a : Nat} {t43 : Int} {b0 : List Nat} {q27 : Nat} {t44 : Int} {m : Nat} {r : Int × Bool} (hm : m = big) (h : z5c q3a t43 b0 q27 m t44 = some (Sum.inr r)) : z91 q3a t43 b0 q27 t44 = true ∧ z8c q3a t43 b0 q27 t44 = false ∧ zev q3a t43 b0 q27 t44 = r.1 ∧ zer q3a t43 b0 q27 t44 = r.2 := by
  subst hm
  unfold z91 z8c zev zer
  rw [h]
  exact ⟨rfl, rfl, rfl, rfl⟩
noncomputable def zb4 {R : Type} (q10 : Nat) (q1n : List Nat) (q1a : Nat) (q1s : List Nat) (q19 : Nat) (q1t : List Nat) (k_ : Bool → Option R) : Option R := (br (ltI (Int.ofNat q10) 2) (k_ Bool.false) (br (ltI 24 (Int.ofNat q10)) (k_ Bool.false) (br (neI (Int.ofNat q1a) (Int.ofNat q10)) (k_ Bool.false) (br (neI (Int.ofNat q19) (Int.ofNat q10)) (k_ Bool.false) (grd (zl5 q1a (pF q1s 0 (muN q1a 1))) (br (bnot (zjt q1a (pF q1s 0 (muN q1a 1)))) (k_ Bool.false) (grd (zle q19 (pF q1t 0 (muN q19 1))) (br (bnot (zl1 q19 (pF q1t 0 (muN q19 1)))) (k_ Bool.false) (grd (z91 q10 (Int.ofNat q10) q1n q10 0) (br (z8c q10 (Int.ofNat q10) q1n q10 0) (k_ Bool.false) (k_ Bool.true)))))))))))
noncomputable def zb2 (q10 : Nat) (q1n : List Nat) (q1a : Nat) (q1s : List Nat) (q19 : Nat) (q1t : List Nat) : Option (Bool) := zb4 q10 q1n q1a q1s q19 q1t (fun c0_ => some c0_)
theorem zoa {R R' : Type} (o : Option R → Option R') (h0 : o none = none) (q10 : Nat) (q1n : List Nat) (q1a : Nat) (q1s : List Nat) (q19 : Nat) (q1t : List Nat) (k_ : Bool → Option R) : zb4 q10 q1n q1a q1s q19 q1t (fun c0_ => o (k_ c0_)) = o (zb4 q10 q1n q1a q1s q19 q1t k_) := by
  unfold zb4
  repeat (first | refine grd_out h0 ?_ | refine br_out ?_ ?_ | rfl | exact h0.symm)
noncomputable def zfu (q10 : Nat) (q1n : List Nat) (q1a : Nat) (q1s : List Nat) (q19 : Nat) (q1t : List Nat) : Bool := (zb2 q10 q1n q1a q1s q19 q1t).isSome
noncomputable def zeu (q10 : Nat) (q1n : List Nat) (q1a : Nat) (q1s : List Nat) (q19 : Nat) (q1t : List Nat) : Bool := ((zb2 q10 q1n q1a q1s q19 q1t).getD default)
theorem zq9 {q10 : Nat} {q1n : List Nat} {q1a : Nat} {q1s : List Nat} {q19 : Nat} {q1t : List Nat} {r : Bool} (h : zb2 q10 q1n q1a q1s q19 q1t = some r) : zfu q10 q1n q1a q1s q19 q1t = true ∧ zeu q10 q1n q1a q1s q19 q1t = r := by
  unfold zfu zeu
  rw [h]
  exact ⟨rfl, rfl⟩
noncomputable def z7r {R : Type} (by_ : Nat) (t14 : Int) (b3 : List Nat) (q0w : Nat) (q36 : Nat) (t15 : Int) (b10 : List Nat) (kn_ : Int → (List Nat) → Option R) (k0_ : Int → Bool → (List Nat) → Option R) : Option R := (br (ltI t15 t14) (grd (okIx t15 q0w) (grd (okIx t15 q36) (grd (okIx t15 q0w) (grd (okIx t15 q36) (kn_ (addI IntKind.i64 t15 1) (sF (sF b10 (ixO 0 t15 3) (fop BinOp.mul FloatKind.f32 by_ (gF b3 (ixO 0 t15 3)))) (Nat.succ (ixO 0 t15 3)) (fop BinOp.mul FloatKind.f32 by_ (gF b3 (Nat.succ (ixO 0 t15 3)))))))))) (k0_ t15 (ltI t15 t14) b10))
theorem znl {R R' : Type} (o : Option R → Option R') (h0 : o none = none) (by_ : Nat) (t14 : Int) (b3 : List Nat) (q0w : Nat) (q36 : Nat) (t15 : Int) (b10 : List Nat) (kn_ : Int → (List Nat) → Option R) (k0_ : Int → Bool → (List Nat) → Option R) : z7r by_ t14 b3 q0w q36 t15 b10 (fun t15' b10' => o (kn_ t15' b10')) (fun c0_ c1_ c2_ => o (k0_ c0_ c1_ c2_)) = o (z7r by_ t14 b3 q0w q36 t15 b10 kn_ k0_) := by
  unfold z7r
  repeat (first | refine grd_out h0 ?_ | refine br_out ?_ ?_ | rfl | exact h0.symm)
noncomputable def z53 (by_ : Nat) (t14 : Int) (b3 : List Nat) (q0w : Nat) (q36 : Nat) : Nat → Int → (List Nat) → Option ((Int × Bool × (List Nat)))
  | 0, _, _ => none
  | n + 1, t15, b10 => z7r by_ t14 b3 q0w q36  t15 b10  (fun t15' b10' => z53 by_ t14 b3 q0w q36 n t15' b10') (fun c0_ c1_ c2_ => some (c0_, c1_, c2_))
theorem zlf (by_ : Nat) (t14 : Int) (b3 : List Nat) (q0w : Nat) (q36 : Nat) (n : Nat) (t15 : Int) (b10 : List Nat) : z53 by_ t14 b3 q0w q36 (n + 1) t15 b10 = z7r by_ t14 b3 q0w q36  t15 b10  (fun t15' b10' => z53 by_ t14 b3 q0w q36 n t15' b10') (fun c0_ c1_ c2_ => some (c0_, c1_, c2_)) := rfl
noncomputable def zez (by_ : Nat) (t14 : Int) (b3 : List Nat) (q0w : Nat) (q36 : Nat) (t15 : Int) (b10 : List Nat) : Bool := (z53 by_ t14 b3 q0w q36 big t15 b10).isSome
noncomputable def zgf (by_ : Nat) (t14 : Int) (b3 : List Nat) (q0w : Nat) (q36 : Nat) (t15 : Int) (b10 : List Nat) : Int := ((z53 by_ t14 b3 q0w q36 big t15 b10).getD default).1
noncomputable def zgi (by_ : Nat) (t14 : Int) (b3 : List Nat) (q0w : Nat) (q36 : Nat) (t15 : Int) (b10 : List Nat) : Bool := ((z53 by_ t14 b3 q0w q36 big t15 b10).getD default).2.1
noncomputable def z9f (by_ : Nat) (t14 : Int) (b3 : List Nat) (q0w : Nat) (q36 : Nat) (t15 : Int) (b10 : List Nat) : List Nat := ((z53 by_ t14 b3 q0w q36 big t15 b10).getD default).2.2
theorem zou {by_ : Nat} {t14 : Int} {b3 : List Nat} {q0w : Nat} {q36 : Nat} {t15 : Int} {b10 : List Nat} {m : Nat} {r : Int × Bool × (List Nat)} (hm : m = big) (h : z53 by_ t14 b3 q0w q36 m t15 b10 = some r) : zez by_ t14 b3 q0w q36 t15 b10 = true ∧ zgf by_ t14 b3 q0w q36 t15 b10 = r.1 ∧ zgi by_ t14 b3 q0w q36 t15 b10 = r.2.1 ∧ z9f by_ t14 b3 q0w q36 t15 b10 = r.2.2 := by
  subst hm
  unfold zez zgf zgi z9f
  rw [h]
  exact ⟨rfl, rfl, rfl, rfl⟩
noncomputable def zdg {R : Type} (q08 : Nat) (q0e : List Nat) (q0b : Nat) (q0h : List Nat) (q0a : Nat) (q0g : List Nat) (q0f : Nat) (q0i : List Nat) (q0n : Int) (q0r : Nat) (q0s : Nat) (by_ : Nat) (k_ : Nat → Nat → Nat → Nat → Int → Nat → Nat → Bool → (List Nat) → (List Nat) → (List Nat) → (List Nat) → Option R) : Option R := (grd (zlq q08 (pF q0e 0 (muN q08 1)) q0b (pF q0h 0 (muN q0b 1)) q0a (pF q0g 0 (muN q0a 1)) q0f (pF q0i 0 (muN q0f 3)) q0n q0r q0s) (br (bnot (zla q08 (pF q0e 0 (muN q08 1)) q0b (pF q0h 0 (muN q0b 1)) q0a (pF q0g 0 (muN q0a 1)) q0f (pF q0i 0 (muN q0f 3)) q0n q0r q0s)) (k_ 0 0 0 0 0 0 0 Bool.false [] [] [] []) (grd (zmh q08 (pF q0e 0 (muN q08 1)) q0b (pF q0h 0 (muN q0b 1)) q0a (pF q0g 0 (muN q0a 1)) q0f (pF q0i 0 (muN q0f 3)) q0n q0r q0s) (grd (zez by_ (Int.ofNat (z6a q08 (pF q0e 0 (muN q08 1)) q0b (pF q0h 0 (muN q0b 1)) q0a (pF q0g 0 (muN q0a 1)) q0f (pF q0i 0 (muN q0f 3)) q0n q0r q0s)) q0i q0f (z6a q08 (pF q0e 0 (muN q08 1)) q0b (pF q0h 0 (muN q0b 1)) q0a (pF q0g 0 (muN q0a 1)) q0f (pF q0i 0 (muN q0f 3)) q0n q0r q0s) 0 (zdu q08 (pF q0e 0 (muN q08 1)) q0b (pF q0h 0 (muN q0b 1)) q0a (pF q0g 0 (muN q0a 1)) q0f (pF q0i 0 (muN q0f 3)) q0n q0r q0s)) (grd (zlq (zcc q08 (pF q0e 0 (muN q08 1)) q0b (pF q0h 0 (muN q0b 1)) q0a (pF q0g 0 (muN q0a 1)) q0f (pF q0i 0 (muN q0f 3)) q0n q0r q0s) (pF (zf7 q08 (pF q0e 0 (muN q08 1)) q0b (pF q0h 0 (muN q0b 1)) q0a (pF q0g 0 (muN q0a 1)) q0f (pF q0i 0 (muN q0f 3)) q0n q0r q0s) 0 (muN (zcc q08 (pF q0e 0 (muN q08 1)) q0b (pF q0h 0 (muN q0b 1)) q0a (pF q0g 0 (muN q0a 1)) q0f (pF q0i 0 (muN q0f 3)) q0n q0r q0s) 1)) (zc4 q08 (pF q0e 0 (muN q08 1)) q0b (pF q0h 0 (muN q0b 1)) q0a (pF q0g 0 (muN q0a 1)) q0f (pF q0i 0 (muN q0f 3)) q0n q0r q0s) (pF (zf8 q08 (pF q0e 0 (muN q08 1)) q0b (pF q0h 0 (muN q0b 1)) q0a (pF q0g 0 (muN q0a 1)) q0f (pF q0i 0 (muN q0f 3)) q0n q0r q0s) 0 (muN (zc4 q08 (pF q0e 0 (muN q08 1)) q0b (pF q0h 0 (muN q0b 1)) q0a (pF q0g 0 (muN q0a 1)) q0f (pF q0i 0 (muN q0f 3)) q0n q0r q0s) 1)) (zcb q08 (pF q0e 0 (muN q08 1)) q0b (pF q0h 0 (muN q0b 1)) q0a (pF q0g 0 (muN q0a 1)) q0f (pF q0i 0 (muN q0f 3)) q0n q0r q0s) (pF (zf2 q08 (pF q0e 0 (muN q08 1)) q0b (pF q0h 0 (muN q0b 1)) q0a (pF q0g 0 (muN q0a 1)) q0f (pF q0i 0 (muN q0f 3)) q0n q0r q0s) 0 (muN (zcb q08 (pF q0e 0 (muN q08 1)) q0b (pF q0h 0 (muN q0b 1)) q0a (pF q0g 0 (muN q0a 1)) q0f (pF q0i 0 (muN q0f 3)) q0n q0r q0s) 1)) (z6a q08 (pF q0e 0 (muN q08 1)) q0b (pF q0h 0 (muN q0b 1)) q0a (pF q0g 0 (muN q0a 1)) q0f (pF q0i 0 (muN q0f 3)) q0n q0r q0s) (pF (z9f by_ (Int.ofNat (z6a q08 (pF q0e 0 (muN q08 1)) q0b (pF q0h 0 (muN q0b 1)) q0a (pF q0g 0 (muN q0a 1)) q0f (pF q0i 0 (muN q0f 3)) q0n q0r q0s)) q0i q0f (z6a q08 (pF q0e 0 (muN q08 1)) q0b (pF q0h 0 (muN q0b 1)) q0a (pF q0g 0 (muN q0a 1)) q0f (pF q0i 0 (muN q0f 3)) q0n q0r q0s) 0 (zdu q08 (pF q0e 0 (muN q08 1)) q0b (pF q0h 0 (muN q0b 1)) q0a (pF q0g 0 (muN q0a 1)) q0f (pF q0i 0 (muN q0f 3)) q0n q0r q0s)) 0 (muN (z6a q08 (pF q0e 0 (muN q08 1)) q0b (pF q0h 0 (muN q0b 1)) q0a (pF q0g 0 (muN q0a 1)) q0f (pF q0i 0 (muN q0f 3)) q0n q0r q0s) 3)) q0n (fop BinOp.mul FloatKind.f32 by_ q0r) (fop BinOp.mul FloatKind.f32 by_ q0s)) (br (bnot (zla (zcc q08 (pF q0e 0 (muN q08 1)) q0b (pF q0h 0 (muN q0b 1)) q0a (pF q0g 0 (muN q0a 1)) q0f (pF q0i 0 (muN q0f 3)) q0n q0r q0s) (pF (zf7 q08 (pF q0e 0 (muN q08 1)) q0b (pF q0h 0 (muN q0b 1)) q0a (pF q0g 0 (muN q0a 1)) q0f (pF q0i 0 (muN q0f 3)) q0n q0r q0s) 0 (muN (zcc q08 (pF q0e 0 (muN q08 1)) q0b (pF q0h 0 (muN q0b 1)) q0a (pF q0g 0 (muN q0a 1)) q0f (pF q0i 0 (muN q0f 3)) q0n q0r q0s) 1)) (zc4 q08 (pF q0e 0 (muN q08 1)) q0b (pF q0h 0 (muN q0b 1)) q0a (pF q0g 0 (muN q0a 1)) q0f (pF q0i 0 (muN q0f 3)) q0n q0r q0s) (pF (zf8 q08 (pF q0e 0 (muN q08 1)) q0b (pF q0h 0 (muN q0b 1)) q0a (pF q0g 0 (muN q0a 1)) q0f (pF q0i 0 (muN q0f 3)) q0n q0r q0s) 0 (muN (zc4 q08 (pF q0e 0 (muN q08 1)) q0b (pF q0h 0 (muN q0b 1)) q0a (pF q0g 0 (muN q0a 1)) q0f (pF q0i 0 (muN q0f 3)) q0n q0r q0s) 1)) (zcb q08 (pF q0e 0 (muN q08 1)) q0b (pF q0h 0 (muN q0b 1)) q0a (pF q0g 0 (muN q0a 1)) q0f (pF q0i 0 (muN q0f 3)) q0n q0r q0s) (pF (zf2 q08 (pF q0e 0 (muN q08 1)) q0b (pF q0h 0 (muN q0b 1)) q0a (pF q0g 0 (muN q0a 1)) q0f (pF q0i 0 (muN q0f 3)) q0n q0r q0s) 0 (muN (zcb q08 (pF q0e 0 (muN q08 1)) q0b (pF q0h 0 (muN q0b 1)) q0a (pF q0g 0 (muN q0a 1)) q0f (pF q0i 0 (muN q0f 3)) q0n q0r q0s) 1)) (z6a q08 (pF q0e 0 (muN q08 1)) q0b (pF q0h 0 (muN q0b 1)) q0a (pF q0g 0 (muN q0a 1)) q0f (pF q0i 0 (muN q0f 3)) q0n q0r q0s) (pF (z9f by_ (Int.ofNat (z6a q08 (pF q0e 0 (muN q08 1)) q0b (pF q0h 0 (muN q0b 1)) q0a (pF q0g 0 (muN q0a 1)) q0f (pF q0i 0 (muN q0f 3)) q0n q0r q0s)) q0i q0f (z6a q08 (pF q0e 0 (muN q08 1)) q0b (pF q0h 0 (muN q0b 1)) q0a (pF q0g 0 (muN q0a 1)) q0f (pF q0i 0 (muN q0f 3)) q0n q0r q0s) 0 (zdu q08 (pF q0e 0 (muN q08 1)) q0b (pF q0h 0 (muN q0b 1)) q0a (pF q0g 0 (muN q0a 1)) q0f (pF q0i 0 (muN q0f 3)) q0n q0r q0s)) 0 (muN (z6a q08 (pF q0e 0 (muN q08 1)) q0b (pF q0h 0 (muN q0b 1)) q0a (pF q0g 0 (muN q0a 1)) q0f (pF q0i 0 (muN q0f 3)) q0n q0r q0s) 3)) q0n (fop BinOp.mul FloatKind.f32 by_ q0r) (fop BinOp.mul FloatKind.f32 by_ q0s))) (k_ 0 0 0 0 0 0 0 Bool.false [] [] [] []) (k_ (zcc q08 (pF q0e 0 (muN q08 1)) q0b (pF q0h 0 (muN q0b 1)) q0a (pF q0g 0 (muN q0a 1)) q0f (pF q0i 0 (muN q0f 3)) q0n q0r q0s) (zc4 q08 (pF q0e 0 (muN q08 1)) q0b (pF q0h 0 (muN q0b 1)) q0a (pF q0g 0 (muN q0a 1)) q0f (pF q0i 0 (muN q0f 3)) q0n q0r q0s) (zcb q08 (pF q0e 0 (muN q08 1)) q0b (pF q0h 0 (muN q0b 1)) q0a (pF q0g 0 (muN q0a 1)) q0f (pF q0i 0 (muN q0f 3)) q0n q0r q0s) (z6a q08 (pF q0e 0 (muN q08 1)) q0b (pF q0h 0 (muN q0b 1)) q0a (pF q0g 0 (muN q0a 1)) q0f (pF q0i 0 (muN q0f 3)) q0n q0r q0s) q0n (fop BinOp.mul FloatKind.f32 by_ q0r) (fop BinOp.mul FloatKind.f32 by_ q0s) Bool.true (zf7 q08 (pF q0e 0 (muN q08 1)) q0b (pF q0h 0 (muN q0b 1)) q0a (pF q0g 0 (muN q0a 1)) q0f (pF q0i 0 (muN q0f 3)) q0n q0r q0s) (zf8 q08 (pF q0e 0 (muN q08 1)) q0b (pF q0h 0 (muN q0b 1)) q0a (pF q0g 0 (muN q0a 1)) q0f (pF q0i 0 (muN q0f 3)) q0n q0r q0s) (zf2 q08 (pF q0e 0 (muN q08 1)) q0b (pF q0h 0 (muN q0b 1)) q0a (pF q0g 0 (muN q0a 1)) q0f (pF q0i 0 (muN q0f 3)) q0n q0r q0s) (z9f by_ (Int.ofNat (z6a q08 (pF q0e 0 (muN q08 1)) q0b (pF q0h 0 (muN q0b 1)) q0a (pF q0g 0 (muN q0a 1)) q0f (pF q0i 0 (muN q0f 3)) q0n q0r q0s)) q0i q0f (z6a q08 (pF q0e 0 (muN q08 1)) q0b (pF q0h 0 (muN q0b 1)) q0a (pF q0g 0 (muN q0a 1)) q0f (pF q0i 0 (muN q0f 3)) q0n q0r q0s) 0 (zdu q08 (pF q0e 0 (muN q08 1)) q0b (pF q0h 0 (muN q0b 1)) q0a (pF q0g 0 (muN q0a 1)) q0f (pF q0i 0 (muN q0f 3)) q0n q0r q0s)))))))))
noncomputable def z5f (q08 : Nat) (q0e : List Nat) (q0b : Nat) (q0h : List Nat) (q0a : Nat) (q0g : List Nat) (q0f : Nat) (q0i : List Nat) (q0n : Int) (q0r : Nat) (q0s : Nat) (by_ : Nat) : Option (Nat × Nat × Nat × Nat × Int × Nat × Nat × Bool × (List Nat) × (List Nat) × (List Nat) × (List Nat)) := zdg q08 q0e q0b q0h q0a q0g q0f q0i q0n q0r q0s by_ (fun c0_ c1_ c2_ c3_ c4_ c5_ c6_ c7_ c8_ c9_ c10_ c11_ => some (c0_, c1_, c2_, c3_, c4_, c5_, c6_, c7_, c8_, c9_, c10_, c11_))
theorem zpm {R R' : Type} (o : Option R → Option R') (h0 : o none = none) (q08 : Nat) (q0e : List Nat) (q0b : Nat) (q0h : List Nat) (q0a : Nat) (q0g : List Nat) (q0f : Nat) (q0i : List Nat) (q0n : Int) (q0r : Nat) (q0s : Nat) (by_ : Nat) (k_ : Nat → Nat → Nat → Nat → Int → Nat → Nat → Bool → (List Nat) → (List Nat) → (List Nat) → (List Nat) → Option R) : zdg q08 q0e q0b q0h q0a q0g q0f q0i q0n q0r q0s by_ (fun c0_ c1_ c2_ c3_ c4_ c5_ c6_ c7_ c8_ c9_ c10_ c11_ => o (k_ c0_ c1_ c2_ c3_ c4_ c5_ c6_ c7_ c8_ c9_ c10_ c11_)) = o (zdg q08 q0e q0b q0h q0a q0g q0f q0i q0n q0r q0s by_ k_) := by
  unfold zdg
  repeat (first | refine grd_out h0 ?_ | refine br_out ?_ ?_ | rfl | exact h0.symm)
noncomputable def zjr (q08 : Nat) (q0e : List Nat) (q0b : Nat) (q0h : List Nat) (q0a : Nat) (q0g : List Nat) (q0f : Nat) (q0i : List Nat) (q0n : Int) (q0r : Nat) (q0s : Nat) (by_ : Nat) : Bool := (z5f q08 q0e q0b q0h q0a q0g q0f q0i q0n q0r q0s by_).isSome
noncomputable def zh6 (q08 : Nat) (q0e : List Nat) (q0b : Nat) (q0h : List Nat) (q0a : Nat) (q0g : List Nat) (q0f : Nat) (q0i : List Nat) (q0n : Int) (q0r : Nat) (q0s : Nat) (by_ : Nat) : Nat := ((z5f q08 q0e q0b q0h q0a q0g q0f q0i q0n q0r q0s by_).getD default).1
noncomputable def zgv (q08 : Nat) (q0e : List Nat) (q0b : Nat) (q0h : List Nat) (q0a : Nat) (q0g : List Nat) (q0f : Nat) (q0i : List Nat) (q0n : Int) (q0r : Nat) (q0s : Nat) (by_ : Nat) : Nat := ((z5f q08 q0e q0b q0h q0a q0g q0f q0i q0n q0r q0s by_).getD default).2.1
noncomputable def zi4 (q08 : Nat) (q0e : List Nat) (q0b : Nat) (q0h : List Nat) (q0a : Nat) (q0g : List Nat) (q0f : Nat) (q0i : List Nat) (q0n : Int) (q0r : Nat) (q0s : Nat) (by_ : Nat) : Nat := ((z5f q08 q0e q0b q0h q0a q0g q0f q0i q0n q0r q0s by_).getD default).2.2.1
noncomputable def zhh (q08 : Nat) (q0e : List Nat) (q0b : Nat) (q0h : List Nat) (q0a : Nat) (q0g : List Nat) (q0f : Nat) (q0i : List Nat) (q0n : Int) (q0r : Nat) (q0s : Nat) (by_ : Nat) : Nat := ((z5f q08 q0e q0b q0h q0a q0g q0f q0i q0n q0r q0s by_).getD default).2.2.2.1
noncomputable def zhr (q08 : Nat) (q0e : List Nat) (q0b : Nat) (q0h : List Nat) (q0a : Nat) (q0g : List Nat) (q0f : Nat) (q0i : List Nat) (q0n : Int) (q0r : Nat) (q0s : Nat) (by_ : Nat) : Int := ((z5f q08 q0e q0b q0h q0a q0g q0f q0i q0n q0r q0s by_).getD default).2.2.2.2.1
noncomputable def zh5 (q08 : Nat) (q0e : List Nat) (q0b : Nat) (q0h : List Nat) (q0a : Nat) (q0g : List Nat) (q0f : Nat) (q0i : List Nat) (q0n : Int) (q0r : Nat) (q0s : Nat) (by_ : Nat) : Nat := ((z5f q08 q0e q0b q0h q0a q0g q0f q0i q0n q0r q0s by_).getD default).2.2.2.2.2.1
noncomputable def zhj (q08 : Nat) (q0e : List Nat) (q0b : Nat) (q0h : List Nat) (q0a : Nat) (q0g : List Nat) (q0f : Nat) (q0i : List Nat) (q0n : Int) (q0r : Nat) (q0s : Nat) (by_ : Nat) : Nat := ((z5f q08 q0e q0b q0h q0a q0g q0f q0i q0n q0r q0s by_).getD default).2.2.2.2.2.2.1
noncomputable def zh8 (q08 : Nat) (q0e : List Nat) (q0b : Nat) (q0h : List Nat) (q0a : Nat) (q0g : List Nat) (q0f : Nat) (q0i : List Nat) (q0n : Int) (q0r : Nat) (q0s : Nat) (by_ : Nat) : Bool := ((z5f q08 q0e q0b q0h q0a q0g q0f q0i q0n q0r q0s by_).getD default).2.2.2.2.2.2.2.1
noncomputable def zi1 (q08 : Nat) (q0e : List Nat) (q0b : Nat) (q0h : List Nat) (q0a : Nat) (q0g : List Nat) (q0f : Nat) (q0i : List Nat) (q0n : Int) (q0r : Nat) (q0s : Nat) (by_ : Nat) : List Nat := ((z5f q08 q0e q0b q0h q0a q0g q0f q0i q0n q0r q0s by_).getD default).2.2.2.2.2.2.2.2.1
noncomputable def zhu (q08 : Nat) (q0e : List Nat) (q0b : Nat) (q0h : List Nat) (q0a : Nat) (q0g : List Nat) (q0f : Nat) (q0i : List Nat) (q0n : Int) (q0r : Nat) (q0s : Nat) (by_ : Nat) : List Nat := ((z5f q08 q0e q0b q0h q0a q0g q0f q0i q0n q0r q0s by_).getD default).2.2.2.2.2.2.2.2.2.1
noncomputable def zfy (q08 : Nat) (q0e : List Nat) (q0b : Nat) (q0h : List Nat) (q0a : Nat) (q0g : List Nat) (q0f : Nat) (q0i : List Nat) (q0n : Int) (q0r : Nat) (q0s : Nat) (by_ : Nat) : List Nat := ((z5f q08 q0e q0b q0h q0a q0g q0f q0i q0n q0r q0s by_).getD default).2.2.2.2.2.2.2.2.2.2.1
noncomputable def zfo (q08 : Nat) (q0e : List Nat) (q0b : Nat) (q0h : List Nat) (q0a : Nat) (q0g : List Nat) (q0f : Nat) (q0i : List Nat) (q0n : Int) (q0r : Nat) (q0s : Nat) (by_ : Nat) : List Nat := ((z5f q08 q0e q0b q0h q0a q0g q0f q0i q0n q0r q0s by_).getD default).2.2.2.2.2.2.2.2.2.2.2
theorem zr7 {q08 : Nat} {q0e : List Nat} {q0b : Nat} {q0h : List Nat} {q0a : Nat} {q0g : List Nat} {q0f : Nat} {q0i : List Nat} {q0n : Int} {q0r : Nat} {q0s : Nat} {by_ : Nat} {r : Nat × Nat × Nat × Nat × Int × Nat × Nat × Bool × (List Nat) × (List Nat) × (List Nat) × (List Nat)} (h : z5f q08 q0e q0b q0h q0a q0g q0f q0i q0n q0r q0s by_ = some r) : zjr q08 q0e q0b q0h q0a q0g q0f q0i q0n q0r q0s by_ = true ∧ zh6 q08 q0e q0b q0h q0a q0g q0f q0i q0n q0r q0s by_ = r.1 ∧ zgv q08 q0e q0b q0h q0a q0g q0f q0i q0n q0r q0s by_ = r.2.1 ∧ zi4 q08 q0e q0b q0h q0a q0g q0f q0i q0n q0r q0s by_ = r.2.2.1 ∧ zhh q08 q0e q0b q0h q0a q0g q0f q0i q0n q0r q0s by_ = r.2.2.2.1 ∧ zhr q08 q0e q0b q0h q0a q0g q0f q0i q0n q0r q0s by_ = r.2.2.2.2.1 ∧ zh5 q08 q0e q0b q0h q0a q0g q0f q0i q0n q0r q0s by_ = r.2.2.2.2.2.1 ∧ zhj q08 q0e q0b q0h q0a q0g q0f q0i q0n q0r q0s by_ = r.2.2.2.2.2.2.1 ∧ zh8 q08 q0e q0b q0h q0a q0g q0f q0i q0n q0r q0s by_ = r.2.2.2.2.2.2.2.1 ∧ zi1 q08 q0e q0b q0h q0a q0g q0f q0i q0n q0r q0s by_ = r.2.2.2.2.2.2.2.2.1 ∧ zhu q08 q0e q0b q0h q0a q0g q0f q0i q0n q0r q0s by_ = r.2.2.2.2.2.2.2.2.2.1 ∧ zfy q08 q0e q0b q0h q0a q0g q0f q0i q0n q0r q0s by_ = r.2.2.2.2.2.2.2.2.2.2.1 ∧ zfo q08 q0e q0b q0h q0a q0g q0f q0i q0n q0r q0s by_ = r.2.2.2.2.2.2.2.2.2.2.2 := by
  unfold zjr zh6 zgv zi4 zhh zhr zh5 zhj zh8 zi1 zhu zfy zfo
  rw [h]
  exact ⟨rfl, rfl, rfl, rfl, rfl, rfl, rfl, rfl, rfl, rfl, rfl, rfl, rfl⟩
noncomputable def z7v {R : Type} (q37 : Nat) (t44 : Int) (b3 : List Nat) (q0y : Nat) (t4 : Nat) (t45 : Int) (kn_ : Nat → Int → Option R) (k0_ : Unit → Option R) (k1_ : Nat → Int → Bool → Option R) : Option R := (br (ltI t45 t44) (grd (okIx t45 q37) (br (fcmp BinOp.gtr FloatKind.f32 (gF b3 (ixO 0 t45 3)) t4) (br (bnot (fcmp BinOp.lss FloatKind.f32 (gF b3 (ixO 0 t45 3)) q0y)) (k0_ ()) (grd (ze7 1 (pF [(gF b3 (Nat.succ (ixO 0 t45 3)))] 0 (muN 1 1))) (br (bnot (zdn 1 (pF [(gF b3 (Nat.succ (ixO 0 t45 3)))] 0 (muN 1 1)))) (k0_ ()) (grd (za5 (gF b3 (Nat.succ (Nat.succ (ixO 0 t45 3))))) (br (bnot (z9i (gF b3 (Nat.succ (Nat.succ (ixO 0 t45 3)))))) (k0_ ()) (kn_ (gF b3 (ixO 0 t45 3)) (addI IntKind.i64 t45 1))))))) (br (bnot Bool.false) (k0_ ()) (grd (ze7 1 (pF [(gF b3 (Nat.succ (ixO 0 t45 3)))] 0 (muN 1 1))) (br (bnot (zdn 1 (pF [(gF b3 (Nat.succ (ixO 0 t45 3)))] 0 (muN 1 1)))) (k0_ ()) (grd (za5 (gF b3 (Nat.succ (Nat.succ (ixO 0 t45 3))))) (br (bnot (z9i (gF b3 (Nat.succ (Nat.succ (ixO 0 t45 3)))))) (k0_ ()) (kn_ (gF b3 (ixO 0 t45 3)) (addI IntKind.i64 t45 1))))))))) (k1_ t4 t45 (ltI t45 t44)))
theorem zo3 {R R' : Type} (o : Option R → Option R') (h0 : o none = none) (q37 : Nat) (t44 : Int) (b3 : List Nat) (q0y : Nat) (t4 : Nat) (t45 : Int) (kn_ : Nat → Int → Option R) (k0_ : Unit → Option R) (k1_ : Nat → Int → Bool → Option R) : z7v q37 t44 b3 q0y t4 t45 (fun t4' t45' => o (kn_ t4' t45')) (fun _ => o (k0_ ())) (fun c0_ c1_ c2_ => o (k1_ c0_ c1_ c2_)) = o (z7v q37 t44 b3 q0y t4 t45 kn_ k0_ k1_) := by
  unfold z7v
  repeat (first | refine grd_out h0 ?_ | refine br_out ?_ ?_ | rfl | exact h0.symm)
noncomputable def z4v (q37 : Nat) (t44 : Int) (b3 : List Nat) (q0y : Nat) : Nat → Nat → Int → Option ((Unit) ⊕ (Nat × Int × Bool))
  | 0, _, _ => none
  | n + 1, t4, t45 => z7v q37 t44 b3 q0y  t4 t45  (fun t4' t45' => z4v q37 t44 b3 q0y n t4' t45') (fun _ => some (Sum.inl ())) (fun c0_ c1_ c2_ => some (Sum.inr (c0_, c1_, c2_)))
theorem zlg (q37 : Nat) (t44 : Int) (b3 : List Nat) (q0y : Nat) (n : Nat) (t4 : Nat) (t45 : Int) : z4v q37 t44 b3 q0y (n + 1) t4 t45 = z7v q37 t44 b3 q0y  t4 t45  (fun t4' t45' => z4v q37 t44 b3 q0y n t4' t45') (fun _ => some (Sum.inl ())) (fun c0_ c1_ c2_ => some (Sum.inr (c0_, c1_, c2_))) := rfl
noncomputable def z9j (q37 : Nat) (t44 : Int) (b3 : List Nat) (q0y : Nat) (t4 : Nat) (t45 : Int) : Bool := (z4v q37 t44 b3 q0y big t4 t45).isSome
noncomputable def z9a (q37 : Nat) (t44 : Int) (b3 : List Nat) (q0y : Nat) (t4 : Nat) (t45 : Int) : Bool := oL (z4v q37 t44 b3 q0y big t4 t45)
noncomputable def zgm (q37 : Nat) (t44 : Int) (b3 : List Nat) (q0y : Nat) (t4 : Nat) (t45 : Int) : Nat := ((tR (z4v q37 t44 b3 q0y big t4 t45)).getD default).1
noncomputable def zgh (q37 : Nat) (t44 : Int) (b3 : List Nat) (q0y : Nat) (t4 : Nat) (t45 : Int) : Int := ((tR (z4v q37 t44 b3 q0y big t4 t45)).getD default).2.1
noncomputable def zgj (q37 : Nat) (t44 : Int) (b3 : List Nat) (q0y : Nat) (t4 : Nat) (t45 : Int) : Bool := ((tR (z4v q37 t44 b3 q0y big t4 t45)).getD default).2.2
theorem zow {q37 : Nat} {t44 : Int} {b3 : List Nat} {q0y : Nat} {t4 : Nat} {t45 : Int} {m : Nat} {r : Unit} (hm : m = big) (h : z4v q37 t44 b3 q0y m t4 t45 = some (Sum.inl r)) : z9j q37 t44 b3 q0y t4 t45 = true ∧ z9a q37 t44 b3 q0y t4 t45 = true := by
  subst hm
  unfold z9j z9a
  rw [h]
  exact ⟨rfl, rfl⟩
theorem zp0 {q37 : Nat} {t44 : Int} {b3 : List Nat} {q0y : Nat} {t4 : Nat} {t45 : Int} {m : Nat} {r : Nat × Int × Bool} (hm : m = big) (h : z4v q37 t44 b3 q0y m t4 t45 = some (Sum.inr r)) : z9j q37 t44 b3 q0y t4 t45 = true ∧ z9a q37 t44 b3 q0y t4 t45 = false ∧ zgm q37 t44 b3 q0y t4 t45 = r.1 ∧ zgh q37 t44 b3 q0y t4 t45 = r.2.1 ∧ zgj q37 t44 b3 q0y t4 t45 = r.2.2 := by
  subst hm
  unfold z9j z9a zgm zgh zgj
  rw [h]
  exact ⟨rfl, rfl, rfl, rfl, rfl⟩
noncomputable def zd5 {R : Type} (q00 : Nat) (q03 : List Nat) (q01 : Nat) (q04 : List Nat) (q02 : Nat) (q05 : List Nat) (q06 : Nat) (q07 : List Nat) (q09 : Int) (q0c : Nat) (q0d : Nat) (k_ : Bool → Option R) : Option R := (grd (zfu q00 (pF q03 0 (muN q00 1)) q01 (pF q04 0 (muN q01 1)) q02 (pF q05 0 (muN q02 1))) (br (bnot (zeu q00 (pF q03 0 (muN q00 1)) q01 (pF q04 0 (muN q01 1)) q02 (pF q05 0 (muN q02 1)))) (k_ Bool.false) (grd (zme q09 1 6) (br (bnot (zm1 q09 1 6)) (k_ Bool.false) (br (ltI (Int.ofNat q06) 2) (k_ Bool.false) (br (ltI 12 (Int.ofNat q06)) (k_ Bool.false) (grd (zka q0c) (br (bnot (zhe q0c)) (k_ Bool.false) (grd (za5 q0d) (br (bnot (z9i q0d)) (k_ Bool.false) (grd (z9j q06 (Int.ofNat q06) q07 q0d q0c 0) (br (z9a q06 (Int.ofNat q06) q07 q0d q0c 0) (k_ Bool.false) (k_ Bool.true)))))))))))))
noncomputable def zd4 (q00 : Nat) (q03 : List Nat) (q01 : Nat) (q04 : List Nat) (q02 : Nat) (q05 : List Nat) (q06 : Nat) (q07 : List Nat) (q09 : Int) (q0c : Nat) (q0d : Nat) : Option (Bool) := zd5 q00 q03 q01 q04 q02 q05 q06 q07 q09 q0c q0d (fun c0_ => some c0_)
theorem zpq {R R' : Type} (o : Option R → Option R') (h0 : o none = none) (q00 : Nat) (q03 : List Nat) (q01 : Nat) (q04 : List Nat) (q02 : Nat) (q05 : List Nat) (q06 : Nat) (q07 : List Nat) (q09 : Int) (q0c : Nat) (q0d : Nat) (k_ : Bool → Option R) : zd5 q00 q03 q01 q04 q02 q05 q06 q07 q09 q0c q0d (fun c0_ => o (k_ c0_)) = o (zd5 q00 q03 q01 q04 q02 q05 q06 q07 q09 q0c q0d k_) := by
  unfold zd5
  repeat (first | refine grd_out h0 ?_ | refine br_out ?_ ?_ | rfl | exact h0.symm)
noncomputable def zek (q00 : Nat) (q03 : List Nat) (q01 : Nat) (q04 : List Nat) (q02 : Nat) (q05 : List Nat) (q06 : Nat) (q07 : List Nat) (q09 : Int) (q0c : Nat) (q0d : Nat) : Bool := (zd4 q00 q03 q01 q04 q02 q05 q06 q07 q09 q0c q0d).isSome
noncomputable def ze8 (q00 : Nat) (q03 : List Nat) (q01 : Nat) (q04 : List Nat) (q02 : Nat) (q05 : List Nat) (q06 : Nat) (q07 : List Nat) (q09 : Int) (q0c : Nat) (q0d : Nat) : Bool := ((zd4 q00 q03 q01 q04 q02 q05 q06 q07 q09 q0c q0d).getD default)
theorem zms {q00 : Nat} {q03 : List Nat} {q01 : Nat} {q04 : List Nat} {q02 : Nat} {q05 : List Nat} {q06 : Nat} {q07 : List Nat} {q09 : Int} {q0c : Nat} {q0d : Nat} {r : Bool} (h : zd4 q00 q03 q01 q04 q02 q05 q06 q07 q09 q0c q0d = some r) : zek q00 q03 q01 q04 q02 q05 q06 q07 q09 q0c q0d = true ∧ ze8 q00 q03 q01 q04 q02 q05 q06 q07 q09 q0c q0d = r := by
  unfold zek ze8
  rw [h]
  exact ⟨rfl, rfl⟩
noncomputable def z7s {R : Type} (by_ : Nat) (q3f : Nat) (t27 : Int) (b3 : List Nat) (q17 : Nat) (t28 : Int) (b9 : List Nat) (kn_ : Int → (List Nat) → Option R) (k0_ : Int → Bool → (List Nat) → Option R) : Option R := (br (ltI t28 t27) (grd (okIx t28 q3f) (grd (okIx t28 q17) (grd (okIx t28 q17) (kn_ (addI IntKind.i64 t28 1) (sF (sF b9 (ixO 0 t28 3) (fop BinOp.mul FloatKind.f32 by_ (gF b3 (ixO 0 t28 3)))) (Nat.succ (ixO 0 t28 3)) (fop BinOp.mul FloatKind.f32 by_ (gF b3 (Nat.succ (ixO 0 t28 3))))))))) (k0_ t28 (ltI t28 t27) b9))
theorem znk {R R' : Type} (o : Option R → Option R') (h0 : o none = none) (by_ : Nat) (q3f : Nat) (t27 : Int) (b3 : List Nat) (q17 : Nat) (t28 : Int) (b9 : List Nat) (kn_ : Int → (List Nat) → Option R) (k0_ : Int → Bool → (List Nat) → Option R) : z7s by_ q3f t27 b3 q17 t28 b9 (fun t28' b9' => o (kn_ t28' b9')) (fun c0_ c1_ c2_ => o (k0_ c0_ c1_ c2_)) = o (z7s by_ q3f t27 b3 q17 t28 b9 kn_ k0_) := by
  unfold z7s
  repeat (first | refine grd_out h0 ?_ | refine br_out ?_ ?_ | rfl | exact h0.symm)
noncomputable def z54 (by_ : Nat) (q3f : Nat) (t27 : Int) (b3 : List Nat) (q17 : Nat) : Nat → Int → (List Nat) → Option ((Int × Bool × (List Nat)))
  | 0, _, _ => none
  | n + 1, t28, b9 => z7s by_ q3f t27 b3 q17  t28 b9  (fun t28' b9' => z54 by_ q3f t27 b3 q17 n t28' b9') (fun c0_ c1_ c2_ => some (c0_, c1_, c2_))
theorem zlj (by_ : Nat) (q3f : Nat) (t27 : Int) (b3 : List Nat) (q17 : Nat) (n : Nat) (t28 : Int) (b9 : List Nat) : z54 by_ q3f t27 b3 q17 (n + 1) t28 b9 = z7s by_ q3f t27 b3 q17  t28 b9  (fun t28' b9' => z54 by_ q3f t27 b3 q17 n t28' b9') (fun c0_ c1_ c2_ => some (c0_, c1_, c2_)) := rfl
noncomputable def zex (by_ : Nat) (q3f : Nat) (t27 : Int) (b3 : List Nat) (q17 : Nat) (t28 : Int) (b9 : List Nat) : Bool := (z54 by_ q3f t27 b3 q17 big t28 b9).isSome
noncomputable def zgd (by_ : Nat) (q3f : Nat) (t27 : Int) (b3 : List Nat) (q17 : Nat) (t28 : Int) (b9 : List Nat) : Int := ((z54 by_ q3f t27 b3 q17 big t28 b9).getD default).1
noncomputable def zg9 (by_ : Nat) (q3f : Nat) (t27 : Int) (b3 : List Nat) (q17 : Nat) (t28 : Int) (b9 : List Nat) : Bool := ((z54 by_ q3f t27 b3 q17 big t28 b9).getD default).2.1
noncomputable def z9e (by_ : Nat) (q3f : Nat) (t27 : Int) (b3 : List Nat) (q17 : Nat) (t28 : Int) (b9 : List Nat) : List Nat := ((z54 by_ q3f t27 b3 q17 big t28 b9).getD default).2.2
theorem zop {by_ : Nat} {q3f : Nat} {t27 : Int} {b3 : List Nat} {q17 : Nat} {t28 : Int} {b9 : List Nat} {m : Nat} {r : Int × Bool × (List Nat)} (hm : m = big) (h : z54 by_ q3f t27 b3 q17 m t28 b9 = some r) : zex by_ q3f t27 b3 q17 t28 b9 = true ∧ zgd by_ q3f t27 b3 q17 t28 b9 = r.1 ∧ zg9 by_ q3f t27 b3 q17 t28 b9 = r.2.1 ∧ z9e by_ q3f t27 b3 q17 t28 b9 = r.2.2 := by
  subst hm
  unfold zex zgd zg9 z9e
  rw [h]
  exact ⟨rfl, rfl, rfl, rfl⟩
noncomputable def zd6 {R : Type} (q08 : Nat) (q0e : List Nat) (q0b : Nat) (q0h : List Nat) (q0a : Nat) (q0g : List Nat) (q0f : Nat) (q0i : List Nat) (q0n : Int) (q0r : Nat) (q0s : Nat) (by_ : Nat) (k_ : Nat → Nat → Nat → Nat → Int → Nat → Nat → Bool → (List Nat) → (List Nat) → (List Nat) → (List Nat) → Option R) : Option R := (grd (zek q08 (pF q0e 0 (muN q08 1)) q0b (pF q0h 0 (muN q0b 1)) q0a (pF q0g 0 (muN q0a 1)) q0f (pF q0i 0 (muN q0f 3)) q0n q0r q0s) (br (bnot (ze8 q08 (pF q0e 0 (muN q08 1)) q0b (pF q0h 0 (muN q0b 1)) q0a (pF q0g 0 (muN q0a 1)) q0f (pF q0i 0 (muN q0f 3)) q0n q0r q0s)) (k_ 0 0 0 0 0 0 0 Bool.false [] [] [] []) (grd (zl3 q08 (pF q0e 0 (muN q08 1)) q0b (pF q0h 0 (muN q0b 1)) q0a (pF q0g 0 (muN q0a 1)) q0f (pF q0i 0 (muN q0f 3)) q0n q0r q0s) (grd (zex by_ q0f (Int.ofNat q0f) q0i (z6q q08 (pF q0e 0 (muN q08 1)) q0b (pF q0h 0 (muN q0b 1)) q0a (pF q0g 0 (muN q0a 1)) q0f (pF q0i 0 (muN q0f 3)) q0n q0r q0s) 0 (zap q08 (pF q0e 0 (muN q08 1)) q0b (pF q0h 0 (muN q0b 1)) q0a (pF q0g 0 (muN q0a 1)) q0f (pF q0i 0 (muN q0f 3)) q0n q0r q0s)) (grd (zek (z9y q08 (pF q0e 0 (muN q08 1)) q0b (pF q0h 0 (muN q0b 1)) q0a (pF q0g 0 (muN q0a 1)) q0f (pF q0i 0 (muN q0f 3)) q0n q0r q0s) (pF (zdc q08 (pF q0e 0 (muN q08 1)) q0b (pF q0h 0 (muN q0b 1)) q0a (pF q0g 0 (muN q0a 1)) q0f (pF q0i 0 (muN q0f 3)) q0n q0r q0s) 0 (muN (z9y q08 (pF q0e 0 (muN q08 1)) q0b (pF q0h 0 (muN q0b 1)) q0a (pF q0g 0 (muN q0a 1)) q0f (pF q0i 0 (muN q0f 3)) q0n q0r q0s) 1)) (z9v q08 (pF q0e 0 (muN q08 1)) q0b (pF q0h 0 (muN q0b 1)) q0a (pF q0g 0 (muN q0a 1)) q0f (pF q0i 0 (muN q0f 3)) q0n q0r q0s) (pF (zd2 q08 (pF q0e 0 (muN q08 1)) q0b (pF q0h 0 (muN q0b 1)) q0a (pF q0g 0 (muN q0a 1)) q0f (pF q0i 0 (muN q0f 3)) q0n q0r q0s) 0 (muN (z9v q08 (pF q0e 0 (muN q08 1)) q0b (pF q0h 0 (muN q0b 1)) q0a (pF q0g 0 (muN q0a 1)) q0f (pF q0i 0 (muN q0f 3)) q0n q0r q0s) 1)) (z9w q08 (pF q0e 0 (muN q08 1)) q0b (pF q0h 0 (muN q0b 1)) q0a (pF q0g 0 (muN q0a 1)) q0f (pF q0i 0 (muN q0f 3)) q0n q0r q0s) (pF (zcy q08 (pF q0e 0 (muN q08 1)) q0b (pF q0h 0 (muN q0b 1)) q0a (pF q0g 0 (muN q0a 1)) q0f (pF q0i 0 (muN q0f 3)) q0n q0r q0s) 0 (muN (z9w q08 (pF q0e 0 (muN q08 1)) q0b (pF q0h 0 (muN q0b 1)) q0a (pF q0g 0 (muN q0a 1)) q0f (pF q0i 0 (muN q0f 3)) q0n q0r q0s) 1)) (z6q q08 (pF q0e 0 (muN q08 1)) q0b (pF q0h 0 (muN q0b 1)) q0a (pF q0g 0 (muN q0a 1)) q0f (pF q0i 0 (muN q0f 3)) q0n q0r q0s) (pF (z9e by_ q0f (Int.ofNat q0f) q0i (z6q q08 (pF q0e 0 (muN q08 1)) q0b (pF q0h 0 (muN q0b 1)) q0a (pF q0g 0 (muN q0a 1)) q0f (pF q0i 0 (muN q0f 3)) q0n q0r q0s) 0 (zap q08 (pF q0e 0 (muN q08 1)) q0b (pF q0h 0 (muN q0b 1)) q0a (pF q0g 0 (muN q0a 1)) q0f (pF q0i 0 (muN q0f 3)) q0n q0r q0s)) 0 (muN (z6q q08 (pF q0e 0 (muN q08 1)) q0b (pF q0h 0 (muN q0b 1)) q0a (pF q0g 0 (muN q0a 1)) q0f (pF q0i 0 (muN q0f 3)) q0n q0r q0s) 3)) q0n (fop BinOp.mul FloatKind.f32 by_ q0r) (fop BinOp.mul FloatKind.f32 by_ q0s)) (br (bnot (ze8 (z9y q08 (pF q0e 0 (muN q08 1)) q0b (pF q0h 0 (muN q0b 1)) q0a (pF q0g 0 (muN q0a 1)) q0f (pF q0i 0 (muN q0f 3)) q0n q0r q0s) (pF (zdc q08 (pF q0e 0 (muN q08 1)) q0b (pF q0h 0 (muN q0b 1)) q0a (pF q0g 0 (muN q0a 1)) q0f (pF q0i 0 (muN q0f 3)) q0n q0r q0s) 0 (muN (z9y q08 (pF q0e 0 (muN q08 1)) q0b (pF q0h 0 (muN q0b 1)) q0a (pF q0g 0 (muN q0a 1)) q0f (pF q0i 0 (muN q0f 3)) q0n q0r q0s) 1)) (z9v q08 (pF q0e 0 (muN q08 1)) q0b (pF q0h 0 (muN q0b 1)) q0a (pF q0g 0 (muN q0a 1)) q0f (pF q0i 0 (muN q0f 3)) q0n q0r q0s) (pF (zd2 q08 (pF q0e 0 (muN q08 1)) q0b (pF q0h 0 (muN q0b 1)) q0a (pF q0g 0 (muN q0a 1)) q0f (pF q0i 0 (muN q0f 3)) q0n q0r q0s) 0 (muN (z9v q08 (pF q0e 0 (muN q08 1)) q0b (pF q0h 0 (muN q0b 1)) q0a (pF q0g 0 (muN q0a 1)) q0f (pF q0i 0 (muN q0f 3)) q0n q0r q0s) 1)) (z9w q08 (pF q0e 0 (muN q08 1)) q0b (pF q0h 0 (muN q0b 1)) q0a (pF q0g 0 (muN q0a 1)) q0f (pF q0i 0 (muN q0f 3)) q0n q0r q0s) (pF (zcy q08 (pF q0e 0 (muN q08 1)) q0b (pF q0h 0 (muN q0b 1)) q0a (pF q0g 0 (muN q0a 1)) q0f (pF q0i 0 (muN q0f 3)) q0n q0r q0s) 0 (muN (z9w q08 (pF q0e 0 (muN q08 1)) q0b (pF q0h 0 (muN q0b 1)) q0a (pF q0g 0 (muN q0a 1)) q0f (pF q0i 0 (muN q0f 3)) q0n q0r q0s) 1)) (z6q q08 (pF q0e 0 (muN q08 1)) q0b (pF q0h 0 (muN q0b 1)) q0a (pF q0g 0 (muN q0a 1)) q0f (pF q0i 0 (muN q0f 3)) q0n q0r q0s) (pF (z9e by_ q0f (Int.ofNat q0f) q0i (z6q q08 (pF q0e 0 (muN q08 1)) q0b (pF q0h 0 (muN q0b 1)) q0a (pF q0g 0 (muN q0a 1)) q0f (pF q0i 0 (muN q0f 3)) q0n q0r q0s) 0 (zap q08 (pF q0e 0 (muN q08 1)) q0b (pF q0h 0 (muN q0b 1)) q0a (pF q0g 0 (muN q0a 1)) q0f (pF q0i 0 (muN q0f 3)) q0n q0r q0s)) 0 (muN (z6q q08 (pF q0e 0 (muN q08 1)) q0b (pF q0h 0 (muN q0b 1)) q0a (pF q0g 0 (muN q0a 1)) q0f (pF q0i 0 (muN q0f 3)) q0n q0r q0s) 3)) q0n (fop BinOp.mul FloatKind.f32 by_ q0r) (fop BinOp.mul FloatKind.f32 by_ q0s))) (k_ 0 0 0 0 0 0 0 Bool.false [] [] [] []) (k_ (z9y q08 (pF q0e 0 (muN q08 1)) q0b (pF q0h 0 (muN q0b 1)) q0a (pF q0g 0 (muN q0a 1)) q0f (pF q0i 0 (muN q0f 3)) q0n q0r q0s) (z9v q08 (pF q0e 0 (muN q08 1)) q0b (pF q0h 0 (muN q0b 1)) q0a (pF q0g 0 (muN q0a 1)) q0f (pF q0i 0 (muN q0f 3)) q0n q0r q0s) (z9w q08 (pF q0e 0 (muN q08 1)) q0b (pF q0h 0 (muN q0b 1)) q0a (pF q0g 0 (muN q0a 1)) q0f (pF q0i 0 (muN q0f 3)) q0n q0r q0s) (z6q q08 (pF q0e 0 (muN q08 1)) q0b (pF q0h 0 (muN q0b 1)) q0a (pF q0g 0 (muN q0a 1)) q0f (pF q0i 0 (muN q0f 3)) q0n q0r q0s) q0n (fop BinOp.mul FloatKind.f32 by_ q0r) (fop BinOp.mul FloatKind.f32 by_ q0s) Bool.true (zdc q08 (pF q0e 0 (muN q08 1)) q0b (pF q0h 0 (muN q0b 1)) q0a (pF q0g 0 (muN q0a 1)) q0f (pF q0i 0 (muN q0f 3)) q0n q0r q0s) (zd2 q08 (pF q0e 0 (muN q08 1)) q0b (pF q0h 0 (muN q0b 1)) q0a (pF q0g 0 (muN q0a 1)) q0f (pF q0i 0 (muN q0f 3)) q0n q0r q0s) (zcy q08 (pF q0e 0 (muN q08 1)) q0b (pF q0h 0 (muN q0b 1)) q0a (pF q0g 0 (muN q0a 1)) q0f (pF q0i 0 (muN q0f 3)) q0n q0r q0s) (z9e by_ q0f (Int.ofNat q0f) q0i (z6q q08 (pF q0e 0 (muN q08 1)) q0b (pF q0h 0 (muN q0b 1)) q0a (pF q0g 0 (muN q0a 1)) q0f (pF q0i 0 (muN q0f 3)) q0n q0r q0s) 0 (zap q08 (pF q0e 0 (muN q08 1)) q0b (pF q0h 0 (muN q0b 1)) q0a (pF q0g 0 (muN q0a 1)) q0f (pF q0i 0 (muN q0f 3)) q0n q0r q0s)))))))))
noncomputable def z5g (q08 : Nat) (q0e : List Nat) (q0b : Nat) (q0h : List Nat) (q0a : Nat) (q0g : List Nat) (q0f : Nat) (q0i : List Nat) (q0n : Int) (q0r : Nat) (q0s : Nat) (by_ : Nat) : Option (Nat × Nat × Nat × Nat × Int × Nat × Nat × Bool × (List Nat) × (List Nat) × (List Nat) × (List Nat)) := zd6 q08 q0e q0b q0h q0a q0g q0f q0i q0n q0r q0s by_ (fun c0_ c1_ c2_ c3_ c4_ c5_ c6_ c7_ c8_ c9_ c10_ c11_ => some (c0_, c1_, c2_, c3_, c4_, c5_, c6_, c7_, c8_, c9_, c10_, c11_))
theorem zp6 {R R' : Type} (o : Option R → Option R') (h0 : o none = none) (q08 : Nat) (q0e : List Nat) (q0b : Nat) (q0h : List Nat) (q0a : Nat) (q0g : List Nat) (q0f : Nat) (q0i : List Nat) (q0n : Int) (q0r : Nat) (q0s : Nat) (by_ : Nat) (k_ : Nat → Nat → Nat → Nat → Int → Nat → Nat → Bool → (List Nat) → (List Nat) → (List Nat) → (List Nat) → Option R) : zd6 q08 q0e q0b q0h q0a q0g q0f q0i q0n q0r q0s by_ (fun c0_ c1_ c2_ c3_ c4_ c5_ c6_ c7_ c8_ c9_ c10_ c11_ => o (k_ c0_ c1_ c2_ c3_ c4_ c5_ c6_ c7_ c8_ c9_ c10_ c11_)) = o (zd6 q08 q0e q0b q0h q0a q0g q0f q0i q0n q0r q0s by_ k_) := by
  unfold zd6
  repeat (first | refine grd_out h0 ?_ | refine br_out ?_ ?_ | rfl | exact h0.symm)
noncomputable def zjq (q08 : Nat) (q0e : List Nat) (q0b : Nat) (q0h : List Nat) (q0a : Nat) (q0g : List Nat) (q0f : Nat) (q0i : List Nat) (q0n : Int) (q0r : Nat) (q0s : Nat) (by_ : Nat) : Bool := (z5g q08 q0e q0b q0h q0a q0g q0f q0i q0n q0r q0s by_).isSome
noncomputable def zhk (q08 : Nat) (q0e : List Nat) (q0b : Nat) (q0h : List Nat) (q0a : Nat) (q0g : List Nat) (q0f : Nat) (q0i : List Nat) (q0n : Int) (q0r : Nat) (q0s : Nat) (by_ : Nat) : Nat := ((z5g q08 q0e q0b q0h q0a q0g q0f q0i q0n q0r q0s by_).getD default).1
noncomputable def zhw (q08 : Nat) (q0e : List Nat) (q0b : Nat) (q0h : List Nat) (q0a : Nat) (q0g : List Nat) (q0f : Nat) (q0i : List Nat) (q0n : Int) (q0r : Nat) (q0s : Nat) (by_ : Nat) : Nat := ((z5g q08 q0e q0b q0h q0a q0g q0f q0i q0n q0r q0s by_).getD default).2.1
noncomputable def zh3 (q08 : Nat) (q0e : List Nat) (q0b : Nat) (q0h : List Nat) (q0a : Nat) (q0g : List Nat) (q0f : Nat) (q0i : List Nat) (q0n : Int) (q0r : Nat) (q0s : Nat) (by_ : Nat) : Nat := ((z5g q08 q0e q0b q0h q0a q0g q0f q0i q0n q0r q0s by_).getD default).2.2.1
noncomputable def zgz (q08 : Nat) (q0e : List Nat) (q0b : Nat) (q0h : List Nat) (q0a : Nat) (q0g : List Nat) (q0f : Nat) (q0i : List Nat) (q0n : Int) (q0r : Nat) (q0s : Nat) (by_ : Nat) : Nat := ((z5g q08 q0e q0b q0h q0a q0g q0f q0i q0n q0r q0s by_).getD default).2.2.2.1
noncomputable def zht (q08 : Nat) (q0e : List Nat) (q0b : Nat) (q0h : List Nat) (q0a : Nat) (q0g : List Nat) (q0f : Nat) (q0i : List Nat) (q0n : Int) (q0r : Nat) (q0s : Nat) (by_ : Nat) : Int := ((z5g q08 q0e q0b q0h q0a q0g q0f q0i q0n q0r q0s by_).getD default).2.2.2.2.1
noncomputable def zhq (q08 : Nat) (q0e : List Nat) (q0b : Nat) (q0h : List Nat) (q0a : Nat) (q0g : List Nat) (q0f : Nat) (q0i : List Nat) (q0n : Int) (q0r : Nat) (q0s : Nat) (by_ : Nat) : Nat := ((z5g q08 q0e q0b q0h q0a q0g q0f q0i q0n q0r q0s by_).getD default).2.2.2.2.2.1
noncomputable def zi9 (q08 : Nat) (q0e : List Nat) (q0b : Nat) (q0h : List Nat) (q0a : Nat) (q0g : List Nat) (q0f : Nat) (q0i : List Nat) (q0n : Int) (q0r : Nat) (q0s : Nat) (by_ : Nat) : Nat := ((z5g q08 q0e q0b q0h q0a q0g q0f q0i q0n q0r q0s by_).getD default).2.2.2.2.2.2.1
noncomputable def zi0 (q08 : Nat) (q0e : List Nat) (q0b : Nat) (q0h : List Nat) (q0a : Nat) (q0g : List Nat) (q0f : Nat) (q0i : List Nat) (q0n : Int) (q0r : Nat) (q0s : Nat) (by_ : Nat) : Bool := ((z5g q08 q0e q0b q0h q0a q0g q0f q0i q0n q0r q0s by_).getD default).2.2.2.2.2.2.2.1
noncomputable def zhx (q08 : Nat) (q0e : List Nat) (q0b : Nat) (q0h : List Nat) (q0a : Nat) (q0g : List Nat) (q0f : Nat) (q0i : List Nat) (q0n : Int) (q0r : Nat) (q0s : Nat) (by_ : Nat) : List Nat := ((z5g q08 q0e q0b q0h q0a q0g q0f q0i q0n q0r q0s by_).getD default).2.2.2.2.2.2.2.2.1
noncomputable def zhc (q08 : Nat) (q0e : List Nat) (q0b : Nat) (q0h : List Nat) (q0a : Nat) (q0g : List Nat) (q0f : Nat) (q0i : List Nat) (q0n : Int) (q0r : Nat) (q0s : Nat) (by_ : Nat) : List Nat := ((z5g q08 q0e q0b q0h q0a q0g q0f q0i q0n q0r q0s by_).getD default).2.2.2.2.2.2.2.2.2.1
noncomputable def zfw (q08 : Nat) (q0e : List Nat) (q0b : Nat) (q0h : List Nat) (q0a : Nat) (q0g : List Nat) (q0f : Nat) (q0i : List Nat) (q0n : Int) (q0r : Nat) (q0s : Nat) (by_ : Nat) : List Nat := ((z5g q08 q0e q0b q0h q0a q0g q0f q0i q0n q0r q0s by_).getD default).2.2.2.2.2.2.2.2.2.2.1
noncomputable def zfq (q08 : Nat) (q0e : List Nat) (q0b : Nat) (q0h : List Nat) (q0a : Nat) (q0g : List Nat) (q0f : Nat) (q0i : List Nat) (q0n : Int) (q0r : Nat) (q0s : Nat) (by_ : Nat) : List Nat := ((z5g q08 q0e q0b q0h q0a q0g q0f q0i q0n q0r q0s by_).getD default).2.2.2.2.2.2.2.2.2.2.2
theorem zr8 {q08 : Nat} {q0e : List Nat} {q0b : Nat} {q0h : List Nat} {q0a : Nat} {q0g : List Nat} {q0f : Nat} {q0i : List Nat} {q0n : Int} {q0r : Nat} {q0s : Nat} {by_ : Nat} {r : Nat × Nat × Nat × Nat × Int × Nat × Nat × Bool × (List Nat) × (List Nat) × (List Nat) × (List Nat)} (h : z5g q08 q0e q0b q0h q0a q0g q0f q0i q0n q0r q0s by_ = some r) : zjq q08 q0e q0b q0h q0a q0g q0f q0i q0n q0r q0s by_ = true ∧ zhk q08 q0e q0b q0h q0a q0g q0f q0i q0n q0r q0s by_ = r.1 ∧ zhw q08 q0e q0b q0h q0a q0g q0f q0i q0n q0r q0s by_ = r.2.1 ∧ zh3 q08 q0e q0b q0h q0a q0g q0f q0i q0n q0r q0s by_ = r.2.2.1 ∧ zgz q08 q0e q0b q0h q0a q0g q0f q0i q0n q0r q0s by_ = r.2.2.2.1 ∧ zht q08 q0e q0b q0h q0a q0g q0f q0i q0n q0r q0s by_ = r.2.2.2.2.1 ∧ zhq q08 q0e q0b q0h q0a q0g q0f q0i q0n q0r q0s by_ = r.2.2.2.2.2.1 ∧ zi9 q08 q0e q0b q0h q0a q0g q0f q0i q0n q0r q0s by_ = r.2.2.2.2.2.2.1 ∧ zi0 q08 q0e q0b q0h q0a q0g q0f q0i q0n q0r q0s by_ = r.2.2.2.2.2.2.2.1 ∧ zhx q08 q0e q0b q0h q0a q0g q0f q0i q0n q0r q0s by_ = r.2.2.2.2.2.2.2.2.1 ∧ zhc q08 q0e q0b q0h q0a q0g q0f q0i q0n q0r q0s by_ = r.2.2.2.2.2.2.2.2.2.1 ∧ zfw q08 q0e q0b q0h q0a q0g q0f q0i q0n q0r q0s by_ = r.2.2.2.2.2.2.2.2.2.2.1 ∧ zfq q08 q0e q0b q0h q0a q0g q0f q0i q0n q0r q0s by_ = r.2.2.2.2.2.2.2.2.2.2.2 := by
  unfold zjq zhk zhw zh3 zgz zht zhq zi9 zi0 zhx zhc zfw zfq
  rw [h]
  exact ⟨rfl, rfl, rfl, rfl, rfl, rfl, rfl, rfl, rfl, rfl, rfl, rfl, rfl⟩
noncomputable def z56 {R : Type} (an : Nat) (k : Int) (i : Int) (b11 : List Nat) (kn_ : Int → Int → (List Nat) → Option R) (k0_ : Int → Int → Bool → (List Nat) → Option R) : Option R := (br (ltI i (Int.ofNat an)) (grd (okIx i an) (kn_ (addI IntKind.i64 k 1) (addI IntKind.i64 i 1) (sF b11 (ixO 0 i 1) (fOI FloatKind.f32 k)))) (k0_ k i (ltI i (Int.ofNat an)) b11))
theorem zgw {R R' : Type} (o : Option R → Option R') (h0 : o none = none) (an : Nat) (k : Int) (i : Int) (b11 : List Nat) (kn_ : Int → Int → (List Nat) → Option R) (k0_ : Int → Int → Bool → (List Nat) → Option R) : z56 an k i b11 (fun k' i' b11' => o (kn_ k' i' b11')) (fun c0_ c1_ c2_ c3_ => o (k0_ c0_ c1_ c2_ c3_)) = o (z56 an k i b11 kn_ k0_) := by
  unfold z56
  repeat (first | refine grd_out h0 ?_ | refine br_out ?_ ?_ | rfl | exact h0.symm)
noncomputable def z3b (an : Nat) : Nat → Int → Int → (List Nat) → Option ((Int × Int × Bool × (List Nat)))
  | 0, _, _, _ => none
  | n + 1, k, i, b11 => z56 an  k i b11  (fun k' i' b11' => z3b an n k' i' b11') (fun c0_ c1_ c2_ c3_ => some (c0_, c1_, c2_, c3_))
theorem zgp (an : Nat) (n : Nat) (k : Int) (i : Int) (b11 : List Nat) : z3b an (n + 1) k i b11 = z56 an  k i b11  (fun k' i' b11' => z3b an n k' i' b11') (fun c0_ c1_ c2_ c3_ => some (c0_, c1_, c2_, c3_)) := rfl
noncomputable def z7o (an : Nat) (k : Int) (i : Int) (b11 : List Nat) : Bool := (z3b an big k i b11).isSome
noncomputable def z6v (an : Nat) (k : Int) (i : Int) (b11 : List Nat) : Int := ((z3b an big k i b11).getD default).1
noncomputable def z8y (an : Nat) (k : Int) (i : Int) (b11 : List Nat) : Int := ((z3b an big k i b11).getD default).2.1
noncomputable def z8w (an : Nat) (k : Int) (i : Int) (b11 : List Nat) : Bool := ((z3b an big k i b11).getD default).2.2.1
noncomputable def z8x (an : Nat) (k : Int) (i : Int) (b11 : List Nat) : List Nat := ((z3b an big k i b11).getD default).2.2.2
theorem zjf {an : Nat} {k : Int} {i : Int} {b11 : List Nat} {m : Nat} {r : Int × Int × Bool × (List Nat)} (hm : m = big) (h : z3b an m k i b11 = some r) : z7o an k i b11 = true ∧ z6v an k i b11 = r.1 ∧ z8y an k i b11 = r.2.1 ∧ z8w an k i b11 = r.2.2.1 ∧ z8x an k i b11 = r.2.2.2 := by
  subst hm
  unfold z7o z6v z8y z8w z8x
  rw [h]
  exact ⟨rfl, rfl, rfl, rfl, rfl⟩
noncomputable def z4x {R : Type} (an : Nat) (k : Int) (i : Int) (b12 : List Nat) (kn_ : Int → Int → (List Nat) → Option R) (k0_ : Int → Int → Bool → (List Nat) → Option R) : Option R := (br (ltI i (Int.ofNat an)) (grd (okIx i an) (kn_ (addI IntKind.i64 k 1) (addI IntKind.i64 i 1) (sF b12 (ixO 0 i 1) (fOI FloatKind.f32 k)))) (k0_ k i (ltI i (Int.ofNat an)) b12))
theorem zg2 {R R' : Type} (o : Option R → Option R') (h0 : o none = none) (an : Nat) (k : Int) (i : Int) (b12 : List Nat) (kn_ : Int → Int → (List Nat) → Option R) (k0_ : Int → Int → Bool → (List Nat) → Option R) : z4x an k i b12 (fun k' i' b12' => o (kn_ k' i' b12')) (fun c0_ c1_ c2_ c3_ => o (k0_ c0_ c1_ c2_ c3_)) = o (z4x an k i b12 kn_ k0_) := by
  unfold z4x
  repeat (first | refine grd_out h0 ?_ | refine br_out ?_ ?_ | rfl | exact h0.symm)
noncomputable def z2v (an : Nat) : Nat → Int → Int → (List Nat) → Option ((Int × Int × Bool × (List Nat)))
  | 0, _, _, _ => none
  | n + 1, k, i, b12 => z4x an  k i b12  (fun k' i' b12' => z2v an n k' i' b12') (fun c0_ c1_ c2_ c3_ => some (c0_, c1_, c2_, c3_))
theorem zfn (an : Nat) (n : Nat) (k : Int) (i : Int) (b12 : List Nat) : z2v an (n + 1) k i b12 = z4x an  k i b12  (fun k' i' b12' => z2v an n k' i' b12') (fun c0_ c1_ c2_ c3_ => some (c0_, c1_, c2_, c3_)) := rfl
noncomputable def z75 (an : Nat) (k : Int) (i : Int) (b12 : List Nat) : Bool := (z2v an big k i b12).isSome
noncomputable def z6e (an : Nat) (k : Int) (i : Int) (b12 : List Nat) : Int := ((z2v an big k i b12).getD default).1
noncomputable def z8g (an : Nat) (k : Int) (i : Int) (b12 : List Nat) : Int := ((z2v an big k i b12).getD default).2.1
noncomputable def z8j (an : Nat) (k : Int) (i : Int) (b12 : List Nat) : Bool := ((z2v an big k i b12).getD default).2.2.1
noncomputable def z8a (an : Nat) (k : Int) (i : Int) (b12 : List Nat) : List Nat := ((z2v an big k i b12).getD default).2.2.2
theorem zi3 {an : Nat} {k : Int} {i : Int} {b12 : List Nat} {m : Nat} {r : Int × Int × Bool × (List Nat)} (hm : m = big) (h : z2v an m k i b12 = some r) : z75 an k i b12 = true ∧ z6e an k i b12 = r.1 ∧ z8g an k i b12 = r.2.1 ∧ z8j an k i b12 = r.2.2.1 ∧ z8a an k i b12 = r.2.2.2 := by
  subst hm
  unfold z75 z6e z8g z8j z8a
  rw [h]
  exact ⟨rfl, rfl, rfl, rfl, rfl⟩
noncomputable def z50 {R : Type} (an : Nat) (k : Int) (i : Int) (b13 : List Nat) (kn_ : Int → Int → (List Nat) → Option R) (k0_ : Int → Int → Bool → (List Nat) → Option R) : Option R := (br (ltI i (Int.ofNat an)) (grd (okIx i an) (kn_ (addI IntKind.i64 k 1) (addI IntKind.i64 i 1) (sF b13 (ixO 0 i 1) (fOI FloatKind.f32 k)))) (k0_ k i (ltI i (Int.ofNat an)) b13))
theorem zg1 {R R' : Type} (o : Option R → Option R') (h0 : o none = none) (an : Nat) (k : Int) (i : Int) (b13 : List Nat) (kn_ : Int → Int → (List Nat) → Option R) (k0_ : Int → Int → Bool → (List Nat) → Option R) : z50 an k i b13 (fun k' i' b13' => o (kn_ k' i' b13')) (fun c0_ c1_ c2_ c3_ => o (k0_ c0_ c1_ c2_ c3_)) = o (z50 an k i b13 kn_ k0_) := by
  unfold z50
  repeat (first | refine grd_out h0 ?_ | refine br_out ?_ ?_ | rfl | exact h0.symm)
noncomputable def z2w (an : Nat) : Nat → Int → Int → (List Nat) → Option ((Int × Int × Bool × (List Nat)))
  | 0, _, _, _ => none
  | n + 1, k, i, b13 => z50 an  k i b13  (fun k' i' b13' => z2w an n k' i' b13') (fun c0_ c1_ c2_ c3_ => some (c0_, c1_, c2_, c3_))
theorem zfk (an : Nat) (n : Nat) (k : Int) (i : Int) (b13 : List Nat) : z2w an (n + 1) k i b13 = z50 an  k i b13  (fun k' i' b13' => z2w an n k' i' b13') (fun c0_ c1_ c2_ c3_ => some (c0_, c1_, c2_, c3_)) := rfl
noncomputable def z70 (an : Nat) (k : Int) (i : Int) (b13 : List Nat) : Bool := (z2w an big k i b13).isSome
noncomputable def z6l (an : Nat) (k : Int) (i : Int) (b13 : List Nat) : Int := ((z2w an big k i b13).getD default).1
noncomputable def z89 (an : Nat) (k : Int) (i : Int) (b13 : List Nat) : Int := ((z2w an big k i b13).getD default).2.1
noncomputable def z86 (an : Nat) (k : Int) (i : Int) (b13 : List Nat) : Bool := ((z2w an big k i b13).getD default).2.2.1
noncomputable def z8f (an : Nat) (k : Int) (i : Int) (b13 : List Nat) : List Nat := ((z2w an big k i b13).getD default).2.2.2
theorem zh1 {an : Nat} {k : Int} {i : Int} {b13 : List Nat} {m : Nat} {r : Int × Int × Bool × (List Nat)} (hm : m = big) (h : z2w an m k i b13 = some r) : z70 an k i b13 = true ∧ z6l an k i b13 = r.1 ∧ z89 an k i b13 = r.2.1 ∧ z86 an k i b13 = r.2.2.1 ∧ z8f an k i b13 = r.2.2.2 := by
  subst hm
  unfold z70 z6l z89 z86 z8f
  rw [h]
  exact ⟨rfl, rfl, rfl, rfl, rfl⟩
noncomputable def z4p {R : Type} (an : Nat) (k : Int) (i : Int) (b14 : List Nat) (kn_ : Int → Int → (List Nat) → Option R) (k0_ : Int → Int → Bool → (List Nat) → Option R) : Option R := (br (ltI i (Int.ofNat an)) (grd (okIx i an) (grd (okIx i an) (grd (okIx i an) (kn_ (addI IntKind.i64 (addI IntKind.i64 (addI IntKind.i64 k 1) 1) 1) (addI IntKind.i64 i 1) (sF (sF (sF b14 (ixO 0 i 3) (fOI FloatKind.f32 k)) (Nat.succ (ixO 0 i 3)) (fOI FloatKind.f32 (addI IntKind.i64 k 1))) (Nat.succ (Nat.succ (ixO 0 i 3))) (fOI FloatKind.f32 (addI IntKind.i64 (addI IntKind.i64 k 1) 1))))))) (k0_ k i (ltI i (Int.ofNat an)) b14))
theorem zhg {R R' : Type} (o : Option R → Option R') (h0 : o none = none) (an : Nat) (k : Int) (i : Int) (b14 : List Nat) (kn_ : Int → Int → (List Nat) → Option R) (k0_ : Int → Int → Bool → (List Nat) → Option R) : z4p an k i b14 (fun k' i' b14' => o (kn_ k' i' b14')) (fun c0_ c1_ c2_ c3_ => o (k0_ c0_ c1_ c2_ c3_)) = o (z4p an k i b14 kn_ k0_) := by
  unfold z4p
  repeat (first | refine grd_out h0 ?_ | refine br_out ?_ ?_ | rfl | exact h0.symm)
noncomputable def z3c (an : Nat) : Nat → Int → Int → (List Nat) → Option ((Int × Int × Bool × (List Nat)))
  | 0, _, _, _ => none
  | n + 1, k, i, b14 => z4p an  k i b14  (fun k' i' b14' => z3c an n k' i' b14') (fun c0_ c1_ c2_ c3_ => some (c0_, c1_, c2_, c3_))
theorem zah (an : Nat) (n : Nat) (k : Int) (i : Int) (b14 : List Nat) : z3c an (n + 1) k i b14 = z4p an  k i b14  (fun k' i' b14' => z3c an n k' i' b14') (fun c0_ c1_ c2_ c3_ => some (c0_, c1_, c2_, c3_)) := rfl
noncomputable def z7m (an : Nat) (k : Int) (i : Int) (b14 : List Nat) : Bool := (z3c an big k i b14).isSome
noncomputable def z6u (an : Nat) (k : Int) (i : Int) (b14 : List Nat) : Int := ((z3c an big k i b14).getD default).1
noncomputable def z94 (an : Nat) (k : Int) (i : Int) (b14 : List Nat) : Int := ((z3c an big k i b14).getD default).2.1
noncomputable def z92 (an : Nat) (k : Int) (i : Int) (b14 : List Nat) : Bool := ((z3c an big k i b14).getD default).2.2.1
noncomputable def z93 (an : Nat) (k : Int) (i : Int) (b14 : List Nat) : List Nat := ((z3c an big k i b14).getD default).2.2.2
theorem zje {an : Nat} {k : Int} {i : Int} {b14 : List Nat} {m : Nat} {r : Int × Int × Bool × (List Nat)} (hm : m = big) (h : z3c an m k i b14 = some r) : z7m an k i b14 = true ∧ z6u an k i b14 = r.1 ∧ z94 an k i b14 = r.2.1 ∧ z92 an k i b14 = r.2.2.1 ∧ z93 an k i b14 = r.2.2.2 := by
  subst hm
  unfold z7m z6u z94 z92 z93
  rw [h]
  exact ⟨rfl, rfl, rfl, rfl, rfl⟩
noncomputable def z52 {R : Type} (an : Nat) (k : Int) (i : Int) (b11 : List Nat) (kn_ : Int → Int → (List Nat) → Option R) (k0_ : Int → Int → Bool → (List Nat) → Option R) : Option R := (br (ltI i (Int.ofNat an)) (grd (okIx i an) (kn_ (addI IntKind.i64 k 1) (addI IntKind.i64 i 1) (sF b11 (ixO 0 i 1) (fOI FloatKind.f32 k)))) (k0_ k i (ltI i (Int.ofNat an)) b11))
theorem zg4 {R R' : Type} (o : Option R → Option R') (h0 : o none = none) (an : Nat) (k : Int) (i : Int) (b11 : List Nat) (kn_ : Int → Int → (List Nat) → Option R) (k0_ : Int → Int → Bool → (List Nat) → Option R) : z52 an k i b11 (fun k' i' b11' => o (kn_ k' i' b11')) (fun c0_ c1_ c2_ c3_ => o (k0_ c0_ c1_ c2_ c3_)) = o (z52 an k i b11 kn_ k0_) := by
  unfold z52
  repeat (first | refine grd_out h0 ?_ | refine br_out ?_ ?_ | rfl | exact h0.symm)
noncomputable def z2s (an : Nat) : Nat → Int → Int → (List Nat) → Option ((Int × Int × Bool × (List Nat)))
  | 0, _, _, _ => none
  | n + 1, k, i, b11 => z52 an  k i b11  (fun k' i' b11' => z2s an n k' i' b11') (fun c0_ c1_ c2_ c3_ => some (c0_, c1_, c2_, c3_))
theorem zfm (an : Nat) (n : Nat) (k : Int) (i : Int) (b11 : List Nat) : z2s an (n + 1) k i b11 = z52 an  k i b11  (fun k' i' b11' => z2s an n k' i' b11') (fun c0_ c1_ c2_ c3_ => some (c0_, c1_, c2_, c3_)) := rfl
noncomputable def z74 (an : Nat) (k : Int) (i : Int) (b11 : List Nat) : Bool := (z2s an big k i b11).isSome
noncomputable def z6d (an : Nat) (k : Int) (i : Int) (b11 : List Nat) : Int := ((z2s an big k i b11).getD default).1
noncomputable def z8b (an : Nat) (k : Int) (i : Int) (b11 : List Nat) : Int := ((z2s an big k i b11).getD default).2.1
noncomputable def z87 (an : Nat) (k : Int) (i : Int) (b11 : List Nat) : Bool := ((z2s an big k i b11).getD default).2.2.1
noncomputable def z6i (an : Nat) (k : Int) (i : Int) (b11 : List Nat) : List Nat := ((z2s an big k i b11).getD default).2.2.2
theorem zi6 {an : Nat} {k : Int} {i : Int} {b11 : List Nat} {m : Nat} {r : Int × Int × Bool × (List Nat)} (hm : m = big) (h : z2s an m k i b11 = some r) : z74 an k i b11 = true ∧ z6d an k i b11 = r.1 ∧ z8b an k i b11 = r.2.1 ∧ z87 an k i b11 = r.2.2.1 ∧ z6i an k i b11 = r.2.2.2 := by
  subst hm
  unfold z74 z6d z8b z87 z6i
  rw [h]
  exact ⟨rfl, rfl, rfl, rfl, rfl⟩
noncomputable def z51 {R : Type} (an : Nat) (k : Int) (i : Int) (b12 : List Nat) (kn_ : Int → Int → (List Nat) → Option R) (k0_ : Int → Int → Bool → (List Nat) → Option R) : Option R := (br (ltI i (Int.ofNat an)) (grd (okIx i an) (kn_ (addI IntKind.i64 k 1) (addI IntKind.i64 i 1) (sF b12 (ixO 0 i 1) (fOI FloatKind.f32 k)))) (k0_ k i (ltI i (Int.ofNat an)) b12))
theorem zg3 {R R' : Type} (o : Option R → Option R') (h0 : o none = none) (an : Nat) (k : Int) (i : Int) (b12 : List Nat) (kn_ : Int → Int → (List Nat) → Option R) (k0_ : Int → Int → Bool → (List Nat) → Option R) : z51 an k i b12 (fun k' i' b12' => o (kn_ k' i' b12')) (fun c0_ c1_ c2_ c3_ => o (k0_ c0_ c1_ c2_ c3_)) = o (z51 an k i b12 kn_ k0_) := by
  unfold z51
  repeat (first | refine grd_out h0 ?_ | refine br_out ?_ ?_ | rfl | exact h0.symm)
noncomputable def z2u (an : Nat) : Nat → Int → Int → (List Nat) → Option ((Int × Int × Bool × (List Nat)))
  | 0, _, _, _ => none
  | n + 1, k, i, b12 => z51 an  k i b12  (fun k' i' b12' => z2u an n k' i' b12') (fun c0_ c1_ c2_ c3_ => some (c0_, c1_, c2_, c3_))
theorem zfg (an : Nat) (n : Nat) (k : Int) (i : Int) (b12 : List Nat) : z2u an (n + 1) k i b12 = z51 an  k i b12  (fun k' i' b12' => z2u an n k' i' b12') (fun c0_ c1_ c2_ c3_ => some (c0_, c1_, c2_, c3_)) := rfl
noncomputable def z7a (an : Nat) (k : Int) (i : Int) (b12 : List Nat) : Bool := (z2u an big k i b12).isSome
noncomputable def z6f (an : Nat) (k : Int) (i : Int) (b12 : List Nat) : Int := ((z2u an big k i b12).getD default).1
noncomputable def z8d (an : Nat) (k : Int) (i : Int) (b12 : List Nat) : Int := ((z2u an big k i b12).getD default).2.1
noncomputable def z8k (an : Nat) (k : Int) (i : Int) (b12 : List Nat) : Bool := ((z2u an big k i b12).getD default).2.2.1
noncomputable def z6m (an : Nat) (k : Int) (i : Int) (b12 : List Nat) : List Nat := ((z2u an big k i b12).getD default).2.2.2
theorem zh2 {an : Nat} {k : Int} {i : Int} {b12 : List Nat} {m : Nat} {r : Int × Int × Bool × (List Nat)} (hm : m = big) (h : z2u an m k i b12 = some r) : z7a an k i b12 = true ∧ z6f an k i b12 = r.1 ∧ z8d an k i b12 = r.2.1 ∧ z8k an k i b12 = r.2.2.1 ∧ z6m an k i b12 = r.2.2.2 := by
  subst hm
  unfold z7a z6f z8d z8k z6m
  rw [h]
  exact ⟨rfl, rfl, rfl, rfl, rfl⟩
noncomputable def z4z {R : Type} (an : Nat) (k : Int) (i : Int) (b13 : List Nat) (kn_ : Int → Int → (List Nat) → Option R) (k0_ : Int → Int → Bool → (List Nat) → Option R) : Option R := (br (ltI i (Int.ofNat an)) (grd (okIx i an) (kn_ (addI IntKind.i64 k 1) (addI IntKind.i64 i 1) (sF b13 (ixO 0 i 1) (fOI FloatKind.f32 k)))) (k0_ k i (ltI i (Int.ofNat an)) b13))
theorem zg6 {R R' : Type} (o : Option R → Option R') (h0 : o none = none) (an : Nat) (k : Int) (i : Int) (b13 : List Nat) (kn_ : Int → Int → (List Nat) → Option R) (k0_ : Int → Int → Bool → (List Nat) → Option R) : z4z an k i b13 (fun k' i' b13' => o (kn_ k' i' b13')) (fun c0_ c1_ c2_ c3_ => o (k0_ c0_ c1_ c2_ c3_)) = o (z4z an k i b13 kn_ k0_) := by
  unfold z4z
  repeat (first | refine grd_out h0 ?_ | refine br_out ?_ ?_ | rfl | exact h0.symm)
noncomputable def z2t (an : Nat) : Nat → Int → Int → (List Nat) → Option ((Int × Int × Bool × (List Nat)))
  | 0, _, _, _ => none
  | n + 1, k, i, b13 => z4z an  k i b13  (fun k' i' b13' => z2t an n k' i' b13') (fun c0_ c1_ c2_ c3_ => some (c0_, c1_, c2_, c3_))
theorem zfe (an : Nat) (n : Nat) (k : Int) (i : Int) (b13 : List Nat) : z2t an (n + 1) k i b13 = z4z an  k i b13  (fun k' i' b13' => z2t an n k' i' b13') (fun c0_ c1_ c2_ c3_ => some (c0_, c1_, c2_, c3_)) := rfl
noncomputable def z73 (an : Nat) (k : Int) (i : Int) (b13 : List Nat) : Bool := (z2t an big k i b13).isSome
noncomputable def z6c (an : Nat) (k : Int) (i : Int) (b13 : List Nat) : Int := ((z2t an big k i b13).getD default).1
noncomputable def z8h (an : Nat) (k : Int) (i : Int) (b13 : List Nat) : Int := ((z2t an big k i b13).getD default).2.1
noncomputable def z8l (an : Nat) (k : Int) (i : Int) (b13 : List Nat) : Bool := ((z2t an big k i b13).getD default).2.2.1
noncomputable def z6k (an : Nat) (k : Int) (i : Int) (b13 : List Nat) : List Nat := ((z2t an big k i b13).getD default).2.2.2
theorem zhb {an : Nat} {k : Int} {i : Int} {b13 : List Nat} {m : Nat} {r : Int × Int × Bool × (List Nat)} (hm : m = big) (h : z2t an m k i b13 = some r) : z73 an k i b13 = true ∧ z6c an k i b13 = r.1 ∧ z8h an k i b13 = r.2.1 ∧ z8l an k i b13 = r.2.2.1 ∧ z6k an k i b13 = r.2.2.2 := by
  subst hm
  unfold z73 z6c z8h z8l z6k
  rw [h]
  exact ⟨rfl, rfl, rfl, rfl, rfl⟩
noncomputable def z4j {R : Type} (an : Nat) (k : Int) (i : Int) (b14 : List Nat) (kn_ : Int → Int → (List Nat) → Option R) (k0_ : Int → Int → Bool → (List Nat) → Option R) : Option R := (br (ltI i (Int.ofNat an)) (grd (okIx i an) (grd (okIx i an) (grd (okIx i an) (kn_ (addI IntKind.i64 (addI IntKind.i64 (addI IntKind.i64 k 1) 1) 1) (addI IntKind.i64 i 1) (sF (sF (sF b14 (ixO 0 i 3) (fOI FloatKind.f32 k)) (Nat.succ (ixO 0 i 3)) (fOI FloatKind.f32 (addI IntKind.i64 k 1))) (Nat.succ (Nat.succ (ixO 0 i 3))) (fOI FloatKind.f32 (addI IntKind.i64 (addI IntKind.i64 k 1) 1))))))) (k0_ k i (ltI i (Int.ofNat an)) b14))
theorem zg5 {R R' : Type} (o : Option R → Option R') (h0 : o none = none) (an : Nat) (k : Int) (i : Int) (b14 : List Nat) (kn_ : Int → Int → (List Nat) → Option R) (k0_ : Int → Int → Bool → (List Nat) → Option R) : z4j an k i b14 (fun k' i' b14' => o (kn_ k' i' b14')) (fun c0_ c1_ c2_ c3_ => o (k0_ c0_ c1_ c2_ c3_)) = o (z4j an k i b14 kn_ k0_) := by
  unfold z4j
  repeat (first | refine grd_out h0 ?_ | refine br_out ?_ ?_ | rfl | exact h0.symm)
noncomputable def z2r (an : Nat) : Nat → Int → Int → (List Nat) → Option ((Int × Int × Bool × (List Nat)))
  | 0, _, _, _ => none
  | n + 1, k, i, b14 => z4j an  k i b14  (fun k' i' b14' => z2r an n k' i' b14') (fun c0_ c1_ c2_ c3_ => some (c0_, c1_, c2_, c3_))
theorem za8 (an : Nat) (n : Nat) (k : Int) (i : Int) (b14 : List Nat) : z2r an (n + 1) k i b14 = z4j an  k i b14  (fun k' i' b14' => z2r an n k' i' b14') (fun c0_ c1_ c2_ c3_ => some (c0_, c1_, c2_, c3_)) := rfl
noncomputable def z76 (an : Nat) (k : Int) (i : Int) (b14 : List Nat) : Bool := (z2r an big k i b14).isSome
noncomputable def z6g (an : Nat) (k : Int) (i : Int) (b14 : List Nat) : Int := ((z2r an big k i b14).getD default).1
noncomputable def z8e (an : Nat) (k : Int) (i : Int) (b14 : List Nat) : Int := ((z2r an big k i b14).getD default).2.1
noncomputable def z8i (an : Nat) (k : Int) (i : Int) (b14 : List Nat) : Bool := ((z2r an big k i b14).getD default).2.2.1
noncomputable def z6h (an : Nat) (k : Int) (i : Int) (b14 : List Nat) : List Nat := ((z2r an big k i b14).getD default).2.2.2
theorem zha {an : Nat} {k : Int} {i : Int} {b14 : List Nat} {m : Nat} {r : Int × Int × Bool × (List Nat)} (hm : m = big) (h : z2r an m k i b14 = some r) : z76 an k i b14 = true ∧ z6g an k i b14 = r.1 ∧ z8e an k i b14 = r.2.1 ∧ z8i an k i b14 = r.2.2.1 ∧ z6h an k i b14 = r.2.2.2 := by
  subst hm
  unfold z76 z6g z8e z8i z6h
  rw [h]
  exact ⟨rfl, rfl, rfl, rfl, rfl⟩
noncomputable def za4 (q00 : Nat) (q03 : List Nat) (q01 : Nat) (q04 : List Nat) (q02 : Nat) (q05 : List Nat) (q06 : Nat) (q07 : List Nat) (q09 : Int) (q0c : Nat) (q0d : Nat) (x1 : Nat) := (zi8 q00 (pF q03 0 (muN q00 1)) q01 (pF q04 0 (muN q01 1)) q02 (pF q05 0 (muN q02 1)) q06 (pF q07 0 (muN q06 3)) q09 q0c q0d)
noncomputable def z0p (q00 : Nat) (q03 : List Nat) (q01 : Nat) (q04 : List Nat) (q02 : Nat) (q05 : List Nat) (q06 : Nat) (q07 : List Nat) (q09 : Int) (q0c : Nat) (q0d : Nat) (x1 : Nat) := (zgy q00 (pF q03 0 (muN q00 1)) q01 (pF q04 0 (muN q01 1)) q02 (pF q05 0 (muN q02 1)) q06 (pF q07 0 (muN q06 3)) q09 q0c q0d)
noncomputable def z0m (q00 : Nat) (q03 : List Nat) (q01 : Nat) (q04 : List Nat) (q02 : Nat) (q05 : List Nat) (q06 : Nat) (q07 : List Nat) (q09 : Int) (q0c : Nat) (q0d : Nat) (x1 : Nat) := (zi7 q00 (pF q03 0 (muN q00 1)) q01 (pF q04 0 (muN q01 1)) q02 (pF q05 0 (muN q02 1)) q06 (pF q07 0 (muN q06 3)) q09 q0c q0d)
noncomputable def za3 (q00 : Nat) (q03 : List Nat) (q01 : Nat) (q04 : List Nat) (q02 : Nat) (q05 : List Nat) (q06 : Nat) (q07 : List Nat) (q09 : Int) (q0c : Nat) (q0d : Nat) (x1 : Nat) := (zhi q00 (pF q03 0 (muN q00 1)) q01 (pF q04 0 (muN q01 1)) q02 (pF q05 0 (muN q02 1)) q06 (pF q07 0 (muN q06 3)) q09 q0c q0d)
noncomputable def z95 (q00 : Nat) (q03 : List Nat) (q01 : Nat) (q04 : List Nat) (q02 : Nat) (q05 : List Nat) (q06 : Nat) (q07 : List Nat) (q09 : Int) (q0c : Nat) (q0d : Nat) (x1 : Nat) := (zjx q00 (pF q03 0 (muN q00 1)) q01 (pF q04 0 (muN q01 1)) q02 (pF q05 0 (muN q02 1)) q06 (pF q07 0 (muN q06 3)) q09 q0c q0d)
noncomputable def z0n (q00 : Nat) (q03 : List Nat) (q01 : Nat) (q04 : List Nat) (q02 : Nat) (q05 : List Nat) (q06 : Nat) (q07 : List Nat) (q09 : Int) (q0c : Nat) (q0d : Nat) (x1 : Nat) := (zh9 q00 (pF q03 0 (muN q00 1)) q01 (pF q04 0 (muN q01 1)) q02 (pF q05 0 (muN q02 1)) q06 (pF q07 0 (muN q06 3)) q09 q0c q0d)
noncomputable def z0o (q00 : Nat) (q03 : List Nat) (q01 : Nat) (q04 : List Nat) (q02 : Nat) (q05 : List Nat) (q06 : Nat) (q07 : List Nat) (q09 : Int) (q0c : Nat) (q0d : Nat) (x1 : Nat) := (zhf q00 (pF q03 0 (muN q00 1)) q01 (pF q04 0 (muN q01 1)) q02 (pF q05 0 (muN q02 1)) q06 (pF q07 0 (muN q06 3)) q09 q0c q0d)
noncomputable def za0 (q00 : Nat) (q03 : List Nat) (q01 : Nat) (q04 : List Nat) (q02 : Nat) (q05 : List Nat) (q06 : Nat) (q07 : List Nat) (q09 : Int) (q0c : Nat) (q0d : Nat) (x1 : Nat) := (zhy q00 (pF q03 0 (muN q00 1)) q01 (pF q04 0 (muN q01 1)) q02 (pF q05 0 (muN q02 1)) q06 (pF q07 0 (muN q06 3)) q09 q0c q0d)
noncomputable def za6 (q00 : Nat) (q03 : List Nat) (q01 : Nat) (q04 : List Nat) (q02 : Nat) (q05 : List Nat) (q06 : Nat) (q07 : List Nat) (q09 : Int) (q0c : Nat) (q0d : Nat) (x1 : Nat) := (zia q00 (pF q03 0 (muN q00 1)) q01 (pF q04 0 (muN q01 1)) q02 (pF q05 0 (muN q02 1)) q06 (pF q07 0 (muN q06 3)) q09 q0c q0d)
noncomputable def zcl (q00 : Nat) (q03 : List Nat) (q01 : Nat) (q04 : List Nat) (q02 : Nat) (q05 : List Nat) (q06 : Nat) (q07 : List Nat) (q09 : Int) (q0c : Nat) (q0d : Nat) (x1 : Nat) := (z6v (z0m q00 q03 q01 q04 q02 q05 q06 q07 q09 q0c q0d x1) 1 0 (za4 q00 q03 q01 q04 q02 q05 q06 q07 q09 q0c q0d x1))
noncomputable def z0v (q00 : Nat) (q03 : List Nat) (q01 : Nat) (q04 : List Nat) (q02 : Nat) (q05 : List Nat) (q06 : Nat) (q07 : List Nat) (q09 : Int) (q0c : Nat) (q0d : Nat) (x1 : Nat) := (pF (za3 q00 q03 q01 q04 q02 q05 q06 q07 q09 q0c q0d x1) 0 (muN (z0o q00 q03 q01 q04 q02 q05 q06 q07 q09 q0c q0d x1) 1))
noncomputable def z0u (q00 : Nat) (q03 : List Nat) (q01 : Nat) (q04 : List Nat) (q02 : Nat) (q05 : List Nat) (q06 : Nat) (q07 : List Nat) (q09 : Int) (q0c : Nat) (q0d : Nat) (x1 : Nat) := (pF (za0 q00 q03 q01 q04 q02 q05 q06 q07 q09 q0c q0d x1) 0 (muN (z0n q00 q03 q01 q04 q02 q05 q06 q07 q09 q0c q0d x1) 3))
noncomputable def z0t (q00 : Nat) (q03 : List Nat) (q01 : Nat) (q04 : List Nat) (q02 : Nat) (q05 : List Nat) (q06 : Nat) (q07 : List Nat) (q09 : Int) (q0c : Nat) (q0d : Nat) (x1 : Nat) := (pF (za6 q00 q03 q01 q04 q02 q05 q06 q07 q09 q0c q0d x1) 0 (muN (z0p q00 q03 q01 q04 q02 q05 q06 q07 q09 q0c q0d x1) 1))
noncomputable def z0x (q00 : Nat) (q03 : List Nat) (q01 : Nat) (q04 : List Nat) (q02 : Nat) (q05 : List Nat) (q06 : Nat) (q07 : List Nat) (q09 : Int) (q0c : Nat) (q0d : Nat) (x1 : Nat) := (pF (za4 q00 q03 q01 q04 q02 q05 q06 q07 q09 q0c q0d x1) 0 (muN (z0m q00 q03 q01 q04 q02 q05 q06 q07 q09 q0c q0d x1) 1))
noncomputable def zbm (q00 : Nat) (q03 : List Nat) (q01 : Nat) (q04 : List Nat) (q02 : Nat) (q05 : List Nat) (q06 : Nat) (q07 : List Nat) (q09 : Int) (q0c : Nat) (q0d : Nat) (x1 : Nat) := (z6e (z0o q00 q03 q01 q04 q02 q05 q06 q07 q09 q0c q0d x1) (zcl q00 q03 q01 q04 q02 q05 q06 q07 q09 q0c q0d x1) 0 (za3 q00 q03 q01 q04 q02 q05 q06 q07 q09 q0c q0d x1))
noncomputable def zbs (q00 : Nat) (q03 : List Nat) (q01 : Nat) (q04 : List Nat) (q02 : Nat) (q05 : List Nat) (q06 : Nat) (q07 : List Nat) (q09 : Int) (q0c : Nat) (q0d : Nat) (x1 : Nat) := (z6l (z0p q00 q03 q01 q04 q02 q05 q06 q07 q09 q0c q0d x1) (zbm q00 q03 q01 q04 q02 q05 q06 q07 q09 q0c q0d x1) 0 (za6 q00 q03 q01 q04 q02 q05 q06 q07 q09 q0c q0d x1))
noncomputable def z8t (q00 : Nat) (q03 : List Nat) (q01 : Nat) (q04 : List Nat) (q02 : Nat) (q05 : List Nat) (q06 : Nat) (q07 : List Nat) (q09 : Int) (q0c : Nat) (q0d : Nat) (x1 : Nat) := (zht (z0m q00 q03 q01 q04 q02 q05 q06 q07 q09 q0c q0d x1) (z0x q00 q03 q01 q04 q02 q05 q06 q07 q09 q0c q0d x1) (z0o q00 q03 q01 q04 q02 q05 q06 q07 q09 q0c q0d x1) (z0v q00 q03 q01 q04 q02 q05 q06 q07 q09 q0c q0d x1) (z0p q00 q03 q01 q04 q02 q05 q06 q07 q09 q0c q0d x1) (z0t q00 q03 q01 q04 q02 q05 q06 q07 q09 q0c q0d x1) (z0n q00 q03 q01 q04 q02 q05 q06 q07 q09 q0c q0d x1) (z0u q00 q03 q01 q04 q02 q05 q06 q07 q09 q0c q0d x1) q09 q0c q0d x1)
noncomputable def z9n (q00 : Nat) (q03 : List Nat) (q01 : Nat) (q04 : List Nat) (q02 : Nat) (q05 : List Nat) (q06 : Nat) (q07 : List Nat) (q09 : Int) (q0c : Nat) (q0d : Nat) (x1 : Nat) := (zhh (z0m q00 q03 q01 q04 q02 q05 q06 q07 q09 q0c q0d x1) (z0x q00 q03 q01 q04 q02 q05 q06 q07 q09 q0c q0d x1) (z0o q00 q03 q01 q04 q02 q05 q06 q07 q09 q0c q0d x1) (z0v q00 q03 q01 q04 q02 q05 q06 q07 q09 q0c q0d x1) (z0p q00 q03 q01 q04 q02 q05 q06 q07 q09 q0c q0d x1) (z0t q00 q03 q01 q04 q02 q05 q06 q07 q09 q0c q0d x1) (z0n q00 q03 q01 q04 q02 q05 q06 q07 q09 q0c q0d x1) (z0u q00 q03 q01 q04 q02 q05 q06 q07 q09 q0c q0d x1) q09 q0c q0d x1)
noncomputable def z8n (q00 : Nat) (q03 : List Nat) (q01 : Nat) (q04 : List Nat) (q02 : Nat) (q05 : List Nat) (q06 : Nat) (q07 : List Nat) (q09 : Int) (q0c : Nat) (q0d : Nat) (x1 : Nat) := (zi9 (z0m q00 q03 q01 q04 q02 q05 q06 q07 q09 q0c q0d x1) (z0x q00 q03 q01 q04 q02 q05 q06 q07 q09 q0c q0d x1) (z0o q00 q03 q01 q04 q02 q05 q06 q07 q09 q0c q0d x1) (z0v q00 q03 q01 q04 q02 q05 q06 q07 q09 q0c q0d x1) (z0p q00 q03 q01 q04 q02 q05 q06 q07 q09 q0c q0d x1) (z0t q00 q03 q01 q04 q02 q05 q06 q07 q09 q0c q0d x1) (z0n q00 q03 q01 q04 q02 q05 q06 q07 q09 q0c q0d x1) (z0u q00 q03 q01 q04 q02 q05 q06 q07 q09 q0c q0d x1) q09 q0c q0d x1)
noncomputable def z5t (q00 : Nat) (q03 : List Nat) (q01 : Nat) (q04 : List Nat) (q02 : Nat) (q05 : List Nat) (q06 : Nat) (q07 : List Nat) (q09 : Int) (q0c : Nat) (q0d : Nat) (x1 : Nat) := (zhw (z0m q00 q03 q01 q04 q02 q05 q06 q07 q09 q0c q0d x1) (z0x q00 q03 q01 q04 q02 q05 q06 q07 q09 q0c q0d x1) (z0o q00 q03 q01 q04 q02 q05 q06 q07 q09 q0c q0d x1) (z0v q00 q03 q01 q04 q02 q05 q06 q07 q09 q0c q0d x1) (z0p q00 q03 q01 q04 q02 q05 q06 q07 q09 q0c q0d x1) (z0t q00 q03 q01 q04 q02 q05 q06 q07 q09 q0c q0d x1) (z0n q00 q03 q01 q04 q02 q05 q06 q07 q09 q0c q0d x1) (z0u q00 q03 q01 q04 q02 q05 q06 q07 q09 q0c q0d x1) q09 q0c q0d x1)
noncomputable def z8p (q00 : Nat) (q03 : List Nat) (q01 : Nat) (q04 : List Nat) (q02 : Nat) (q05 : List Nat) (q06 : Nat) (q07 : List Nat) (q09 : Int) (q0c : Nat) (q0d : Nat) (x1 : Nat) := (zhc (z0m q00 q03 q01 q04 q02 q05 q06 q07 q09 q0c q0d x1) (z0x q00 q03 q01 q04 q02 q05 q06 q07 q09 q0c q0d x1) (z0o q00 q03 q01 q04 q02 q05 q06 q07 q09 q0c q0d x1) (z0v q00 q03 q01 q04 q02 q05 q06 q07 q09 q0c q0d x1) (z0p q00 q03 q01 q04 q02 q05 q06 q07 q09 q0c q0d x1) (z0t q00 q03 q01 q04 q02 q05 q06 q07 q09 q0c q0d x1) (z0n q00 q03 q01 q04 q02 q05 q06 q07 q09 q0c q0d x1) (z0u q00 q03 q01 q04 q02 q05 q06 q07 q09 q0c q0d x1) q09 q0c q0d x1)
noncomputable def zbc (q00 : Nat) (q03 : List Nat) (q01 : Nat) (q04 : List Nat) (q02 : Nat) (q05 : List Nat) (q06 : Nat) (q07 : List Nat) (q09 : Int) (q0c : Nat) (q0d : Nat) (x1 : Nat) := (zhr (z0m q00 q03 q01 q04 q02 q05 q06 q07 q09 q0c q0d x1) (z0x q00 q03 q01 q04 q02 q05 q06 q07 q09 q0c q0d x1) (z0o q00 q03 q01 q04 q02 q05 q06 q07 q09 q0c q0d x1) (z0v q00 q03 q01 q04 q02 q05 q06 q07 q09 q0c q0d x1) (z0p q00 q03 q01 q04 q02 q05 q06 q07 q09 q0c q0d x1) (z0t q00 q03 q01 q04 q02 q05 q06 q07 q09 q0c q0d x1) (z0n q00 q03 q01 q04 q02 q05 q06 q07 q09 q0c q0d x1) (z0u q00 q03 q01 q04 q02 q05 q06 q07 q09 q0c q0d x1) q09 q0c q0d x1)
noncomputable def z8o (q00 : Nat) (q03 : List Nat) (q01 : Nat) (q04 : List Nat) (q02 : Nat) (q05 : List Nat) (q06 : Nat) (q07 : List Nat) (q09 : Int) (q0c : Nat) (q0d : Nat) (x1 : Nat) := (zfw (z0m q00 q03 q01 q04 q02 q05 q06 q07 q09 q0c q0d x1) (z0x q00 q03 q01 q04 q02 q05 q06 q07 q09 q0c q0d x1) (z0o q00 q03 q01 q04 q02 q05 q06 q07 q09 q0c q0d x1) (z0v q00 q03 q01 q04 q02 q05 q06 q07 q09 q0c q0d x1) (z0p q00 q03 q01 q04 q02 q05 q06 q07 q09 q0c q0d x1) (z0t q00 q03 q01 q04 q02 q05 q06 q07 q09 q0c q0d x1) (z0n q00 q03 q01 q04 q02 q05 q06 q07 q09 q0c q0d x1) (z0u q00 q03 q01 q04 q02 q05 q06 q07 q09 q0c q0d x1) q09 q0c q0d x1)
noncomputable def zbn (q00 : Nat) (q03 : List Nat) (q01 : Nat) (q04 : List Nat) (q02 : Nat) (q05 : List Nat) (q06 : Nat) (q07 : List Nat) (q09 : Int) (q0c : Nat) (q0d : Nat) (x1 : Nat) := (zhj (z0m q00 q03 q01 q04 q02 q05 q06 q07 q09 q0c q0d x1) (z0x q00 q03 q01 q04 q02 q05 q06 q07 q09 q0c q0d x1) (z0o q00 q03 q01 q04 q02 q05 q06 q07 q09 q0c q0d x1) (z0v q00 q03 q01 q04 q02 q05 q06 q07 q09 q0c q0d x1) (z0p q00 q03 q01 q04 q02 q05 q06 q07 q09 q0c q0d x1) (z0t q00 q03 q01 q04 q02 q05 q06 q07 q09 q0c q0d x1) (z0n q00 q03 q01 q04 q02 q05 q06 q07 q09 q0c q0d x1) (z0u q00 q03 q01 q04 q02 q05 q06 q07 q09 q0c q0d x1) q09 q0c q0d x1)
noncomputable def z8r (q00 : Nat) (q03 : List Nat) (q01 : Nat) (q04 : List Nat) (q02 : Nat) (q05 : List Nat) (q06 : Nat) (q07 : List Nat) (q09 : Int) (q0c : Nat) (q0d : Nat) (x1 : Nat) := (zfq (z0m q00 q03 q01 q04 q02 q05 q06 q07 q09 q0c q0d x1) (z0x q00 q03 q01 q04 q02 q05 q06 q07 q09 q0c q0d x1) (z0o q00 q03 q01 q04 q02 q05 q06 q07 q09 q0c q0d x1) (z0v q00 q03 q01 q04 q02 q05 q06 q07 q09 q0c q0d x1) (z0p q00 q03 q01 q04 q02 q05 q06 q07 q09 q0c q0d x1) (z0t q00 q03 q01 q04 q02 q05 q06 q07 q09 q0c q0d x1) (z0n q00 q03 q01 q04 q02 q05 q06 q07 q09 q0c q0d x1) (z0u q00 q03 q01 q04 q02 q05 q06 q07 q09 q0c q0d x1) q09 q0c q0d x1)
noncomputable def z8s (q00 : Nat) (q03 : List Nat) (q01 : Nat) (q04 : List Nat) (q02 : Nat) (q05 : List Nat) (q06 : Nat) (q07 : List Nat) (q09 : Int) (q0c : Nat) (q0d : Nat) (x1 : Nat) := (zhx (z0m q00 q03 q01 q04 q02 q05 q06 q07 q09 q0c q0d x1) (z0x q00 q03 q01 q04 q02 q05 q06 q07 q09 q0c q0d x1) (z0o q00 q03 q01 q04 q02 q05 q06 q07 q09 q0c q0d x1) (z0v q00 q03 q01 q04 q02 q05 q06 q07 q09 q0c q0d x1) (z0p q00 q03 q01 q04 q02 q05 q06 q07 q09 q0c q0d x1) (z0t q00 q03 q01 q04 q02 q05 q06 q07 q09 q0c q0d x1) (z0n q00 q03 q01 q04 q02 q05 q06 q07 q09 q0c q0d x1) (z0u q00 q03 q01 q04 q02 q05 q06 q07 q09 q0c q0d x1) q09 q0c q0d x1)
noncomputable def z8q (q00 : Nat) (q03 : List Nat) (q01 : Nat) (q04 : List Nat) (q02 : Nat) (q05 : List Nat) (q06 : Nat) (q07 : List Nat) (q09 : Int) (q0c : Nat) (q0d : Nat) (x1 : Nat) := (zhq (z0m q00 q03 q01 q04 q02 q05 q06 q07 q09 q0c q0d x1) (z0x q00 q03 q01 q04 q02 q05 q06 q07 q09 q0c q0d x1) (z0o q00 q03 q01 q04 q02 q05 q06 q07 q09 q0c q0d x1) (z0v q00 q03 q01 q04 q02 q05 q06 q07 q09 q0c q0d x1) (z0p q00 q03 q01 q04 q02 q05 q06 q07 q09 q0c q0d x1) (z0t q00 q03 q01 q04 q02 q05 q06 q07 q09 q0c q0d x1) (z0n q00 q03 q01 q04 q02 q05 q06 q07 q09 q0c q0d x1) (z0u q00 q03 q01 q04 q02 q05 q06 q07 q09 q0c q0d x1) q09 q0c q0d x1)
noncomputable def z9s (q00 : Nat) (q03 : List Nat) (q01 : Nat) (q04 : List Nat) (q02 : Nat) (q05 : List Nat) (q06 : Nat) (q07 : List Nat) (q09 : Int) (q0c : Nat) (q0d : Nat) (x1 : Nat) := (zh6 (z0m q00 q03 q01 q04 q02 q05 q06 q07 q09 q0c q0d x1) (z0x q00 q03 q01 q04 q02 q05 q06 q07 q09 q0c q0d x1) (z0o q00 q03 q01 q04 q02 q05 q06 q07 q09 q0c q0d x1) (z0v q00 q03 q01 q04 q02 q05 q06 q07 q09 q0c q0d x1) (z0p q00 q03 q01 q04 q02 q05 q06 q07 q09 q0c q0d x1) (z0t q00 q03 q01 q04 q02 q05 q06 q07 q09 q0c q0d x1) (z0n q00 q03 q01 q04 q02 q05 q06 q07 q09 q0c q0d x1) (z0u q00 q03 q01 q04 q02 q05 q06 q07 q09 q0c q0d x1) q09 q0c q0d x1)
noncomputable def z5u (q00 : Nat) (q03 : List Nat) (q01 : Nat) (q04 : List Nat) (q02 : Nat) (q05 : List Nat) (q06 : Nat) (q07 : List Nat) (q09 : Int) (q0c : Nat) (q0d : Nat) (x1 : Nat) := (zhk (z0m q00 q03 q01 q04 q02 q05 q06 q07 q09 q0c q0d x1) (z0x q00 q03 q01 q04 q02 q05 q06 q07 q09 q0c q0d x1) (z0o q00 q03 q01 q04 q02 q05 q06 q07 q09 q0c q0d x1) (z0v q00 q03 q01 q04 q02 q05 q06 q07 q09 q0c q0d x1) (z0p q00 q03 q01 q04 q02 q05 q06 q07 q09 q0c q0d x1) (z0t q00 q03 q01 q04 q02 q05 q06 q07 q09 q0c q0d x1) (z0n q00 q03 q01 q04 q02 q05 q06 q07 q09 q0c q0d x1) (z0u q00 q03 q01 q04 q02 q05 q06 q07 q09 q0c q0d x1) q09 q0c q0d x1)
noncomputable def z5v (q00 : Nat) (q03 : List Nat) (q01 : Nat) (q04 : List Nat) (q02 : Nat) (q05 : List Nat) (q06 : Nat) (q07 : List Nat) (q09 : Int) (q0c : Nat) (q0d : Nat) (x1 : Nat) := (zh3 (z0m q00 q03 q01 q04 q02 q05 q06 q07 q09 q0c q0d x1) (z0x q00 q03 q01 q04 q02 q05 q06 q07 q09 q0c q0d x1) (z0o q00 q03 q01 q04 q02 q05 q06 q07 q09 q0c q0d x1) (z0v q00 q03 q01 q04 q02 q05 q06 q07 q09 q0c q0d x1) (z0p q00 q03 q01 q04 q02 q05 q06 q07 q09 q0c q0d x1) (z0t q00 q03 q01 q04 q02 q05 q06 q07 q09 q0c q0d x1) (z0n q00 q03 q01 q04 q02 q05 q06 q07 q09 q0c q0d x1) (z0u q00 q03 q01 q04 q02 q05 q06 q07 q09 q0c q0d x1) q09 q0c q0d x1)
noncomputable def zbz (q00 : Nat) (q03 : List Nat) (q01 : Nat) (q04 : List Nat) (q02 : Nat) (q05 : List Nat) (q06 : Nat) (q07 : List Nat) (q09 : Int) (q0c : Nat) (q0d : Nat) (x1 : Nat) := (zh5 (z0m q00 q03 q01 q04 q02 q05 q06 q07 q09 q0c q0d x1) (z0x q00 q03 q01 q04 q02 q05 q06 q07 q09 q0c q0d x1) (z0o q00 q03 q01 q04 q02 q05 q06 q07 q09 q0c q0d x1) (z0v q00 q03 q01 q04 q02 q05 q06 q07 q09 q0c q0d x1) (z0p q00 q03 q01 q04 q02 q05 q06 q07 q09 q0c q0d x1) (z0t q00 q03 q01 q04 q02 q05 q06 q07 q09 q0c q0d x1) (z0n q00 q03 q01 q04 q02 q05 q06 q07 q09 q0c q0d x1) (z0u q00 q03 q01 q04 q02 q05 q06 q07 q09 q0c q0d x1) q09 q0c q0d x1)
noncomputable def zba (q00 : Nat) (q03 : List Nat) (q01 : Nat) (q04 : List Nat) (q02 : Nat) (q05 : List Nat) (q06 : Nat) (q07 : List Nat) (q09 : Int) (q0c : Nat) (q0d : Nat) (x1 : Nat) := (zjq (z0m q00 q03 q01 q04 q02 q05 q06 q07 q09 q0c q0d x1) (z0x q00 q03 q01 q04 q02 q05 q06 q07 q09 q0c q0d x1) (z0o q00 q03 q01 q04 q02 q05 q06 q07 q09 q0c q0d x1) (z0v q00 q03 q01 q04 q02 q05 q06 q07 q09 q0c q0d x1) (z0p q00 q03 q01 q04 q02 q05 q06 q07 q09 q0c q0d x1) (z0t q00 q03 q01 q04 q02 q05 q06 q07 q09 q0c q0d x1) (z0n q00 q03 q01 q04 q02 q05 q06 q07 q09 q0c q0d x1) (z0u q00 q03 q01 q04 q02 q05 q06 q07 q09 q0c q0d x1) q09 q0c q0d x1)
noncomputable def z9p (q00 : Nat) (q03 : List Nat) (q01 : Nat) (q04 : List Nat) (q02 : Nat) (q05 : List Nat) (q06 : Nat) (q07 : List Nat) (q09 : Int) (q0c : Nat) (q0d : Nat) (x1 : Nat) := (zgv (z0m q00 q03 q01 q04 q02 q05 q06 q07 q09 q0c q0d x1) (z0x q00 q03 q01 q04 q02 q05 q06 q07 q09 q0c q0d x1) (z0o q00 q03 q01 q04 q02 q05 q06 q07 q09 q0c q0d x1) (z0v q00 q03 q01 q04 q02 q05 q06 q07 q09 q0c q0d x1) (z0p q00 q03 q01 q04 q02 q05 q06 q07 q09 q0c q0d x1) (z0t q00 q03 q01 q04 q02 q05 q06 q07 q09 q0c q0d x1) (z0n q00 q03 q01 q04 q02 q05 q06 q07 q09 q0c q0d x1) (z0u q00 q03 q01 q04 q02 q05 q06 q07 q09 q0c q0d x1) q09 q0c q0d x1)
noncomputable def z5w (q00 : Nat) (q03 : List Nat) (q01 : Nat) (q04 : List Nat) (q02 : Nat) (q05 : List Nat) (q06 : Nat) (q07 : List Nat) (q09 : Int) (q0c : Nat) (q0d : Nat) (x1 : Nat) := (zgz (z0m q00 q03 q01 q04 q02 q05 q06 q07 q09 q0c q0d x1) (z0x q00 q03 q01 q04 q02 q05 q06 q07 q09 q0c q0d x1) (z0o q00 q03 q01 q04 q02 q05 q06 q07 q09 q0c q0d x1) (z0v q00 q03 q01 q04 q02 q05 q06 q07 q09 q0c q0d x1) (z0p q00 q03 q01 q04 q02 q05 q06 q07 q09 q0c q0d x1) (z0t q00 q03 q01 q04 q02 q05 q06 q07 q09 q0c q0d x1) (z0n q00 q03 q01 q04 q02 q05 q06 q07 q09 q0c q0d x1) (z0u q00 q03 q01 q04 q02 q05 q06 q07 q09 q0c q0d x1) q09 q0c q0d x1)
noncomputable def z9t (q00 : Nat) (q03 : List Nat) (q01 : Nat) (q04 : List Nat) (q02 : Nat) (q05 : List Nat) (q06 : Nat) (q07 : List Nat) (q09 : Int) (q0c : Nat) (q0d : Nat) (x1 : Nat) := (zi4 (z0m q00 q03 q01 q04 q02 q05 q06 q07 q09 q0c q0d x1) (z0x q00 q03 q01 q04 q02 q05 q06 q07 q09 q0c q0d x1) (z0o q00 q03 q01 q04 q02 q05 q06 q07 q09 q0c q0d x1) (z0v q00 q03 q01 q04 q02 q05 q06 q07 q09 q0c q0d x1) (z0p q00 q03 q01 q04 q02 q05 q06 q07 q09 q0c q0d x1) (z0t q00 q03 q01 q04 q02 q05 q06 q07 q09 q0c q0d x1) (z0n q00 q03 q01 q04 q02 q05 q06 q07 q09 q0c q0d x1) (z0u q00 q03 q01 q04 q02 q05 q06 q07 q09 q0c q0d x1) q09 q0c q0d x1)
noncomputable def zbj (q00 : Nat) (q03 : List Nat) (q01 : Nat) (q04 : List Nat) (q02 : Nat) (q05 : List Nat) (q06 : Nat) (q07 : List Nat) (q09 : Int) (q0c : Nat) (q0d : Nat) (x1 : Nat) := (muN (z5t q00 q03 q01 q04 q02 q05 q06 q07 q09 q0c q0d x1) 1)
noncomputable def zbk (q00 : Nat) (q03 : List Nat) (q01 : Nat) (q04 : List Nat) (q02 : Nat) (q05 : List Nat) (q06 : Nat) (q07 : List Nat) (q09 : Int) (q0c : Nat) (q0d : Nat) (x1 : Nat) := (muN (z5v q00 q03 q01 q04 q02 q05 q06 q07 q09 q0c q0d x1) 1)
noncomputable def zbw (q00 : Nat) (q03 : List Nat) (q01 : Nat) (q04 : List Nat) (q02 : Nat) (q05 : List Nat) (q06 : Nat) (q07 : List Nat) (q09 : Int) (q0c : Nat) (q0d : Nat) (x1 : Nat) := (muN (z5u q00 q03 q01 q04 q02 q05 q06 q07 q09 q0c q0d x1) 1)
noncomputable def zbq (q00 : Nat) (q03 : List Nat) (q01 : Nat) (q04 : List Nat) (q02 : Nat) (q05 : List Nat) (q06 : Nat) (q07 : List Nat) (q09 : Int) (q0c : Nat) (q0d : Nat) (x1 : Nat) := (muN (z5w q00 q03 q01 q04 q02 q05 q06 q07 q09 q0c q0d x1) 3)
noncomputable def z9u (q00 : Nat) (q03 : List Nat) (q01 : Nat) (q04 : List Nat) (q02 : Nat) (q05 : List Nat) (q06 : Nat) (q07 : List Nat) (q09 : Int) (q0c : Nat) (q0d : Nat) (x1 : Nat) := (bnot (beqB (zi0 (z0m q00 q03 q01 q04 q02 q05 q06 q07 q09 q0c q0d x1) (z0x q00 q03 q01 q04 q02 q05 q06 q07 q09 q0c q0d x1) (z0o q00 q03 q01 q04 q02 q05 q06 q07 q09 q0c q0d x1) (z0v q00 q03 q01 q04 q02 q05 q06 q07 q09 q0c q0d x1) (z0p q00 q03 q01 q04 q02 q05 q06 q07 q09 q0c q0d x1) (z0t q00 q03 q01 q04 q02 q05 q06 q07 q09 q0c q0d x1) (z0n q00 q03 q01 q04 q02 q05 q06 q07 q09 q0c q0d x1) (z0u q00 q03 q01 q04 q02 q05 q06 q07 q09 q0c q0d x1) q09 q0c q0d x1) (zh8 (z0m q00 q03 q01 q04 q02 q05 q06 q07 q09 q0c q0d x1) (z0x q00 q03 q01 q04 q02 q05 q06 q07 q09 q0c q0d x1) (z0o q00 q03 q01 q04 q02 q05 q06 q07 q09 q0c q0d x1) (z0v q00 q03 q01 q04 q02 q05 q06 q07 q09 q0c q0d x1) (z0p q00 q03 q01 q04 q02 q05 q06 q07 q09 q0c q0d x1) (z0t q00 q03 q01 q04 q02 q05 q06 q07 q09 q0c q0d x1) (z0n q00 q03 q01 q04 q02 q05 q06 q07 q09 q0c q0d x1) (z0u q00 q03 q01 q04 q02 q05 q06 q07 q09 q0c q0d x1) q09 q0c q0d x1)))
noncomputable def z9o (q00 : Nat) (q03 : List Nat) (q01 : Nat) (q04 : List Nat) (q02 : Nat) (q05 : List Nat) (q06 : Nat) (q07 : List Nat) (q09 : Int) (q0c : Nat) (q0d : Nat) (x1 : Nat) := (z6d (z5u q00 q03 q01 q04 q02 q05 q06 q07 q09 q0c q0d x1) 1 0 (z8s q00 q03 q01 q04 q02 q05 q06 q07 q09 q0c q0d x1))
noncomputable def zbd (q00 : Nat) (q03 : List Nat) (q01 : Nat) (q04 : List Nat) (q02 : Nat) (q05 : List Nat) (q06 : Nat) (q07 : List Nat) (q09 : Int) (q0c : Nat) (q0d : Nat) (x1 : Nat) := (pF (z8p q00 q03 q01 q04 q02 q05 q06 q07 q09 q0c q0d x1) 0 (zbj q00 q03 q01 q04 q02 q05 q06 q07 q09 q0c q0d x1))
noncomputable def zbo (q00 : Nat) (q03 : List Nat) (q01 : Nat) (q04 : List Nat) (q02 : Nat) (q05 : List Nat) (q06 : Nat) (q07 : List Nat) (q09 : Int) (q0c : Nat) (q0d : Nat) (x1 : Nat) := (pF (z8r q00 q03 q01 q04 q02 q05 q06 q07 q09 q0c q0d x1) 0 (zbq q00 q03 q01 q04 q02 q05 q06 q07 q09 q0c q0d x1))
noncomputable def zbu (q00 : Nat) (q03 : List Nat) (q01 : Nat) (q04 : List Nat) (q02 : Nat) (q05 : List Nat) (q06 : Nat) (q07 : List Nat) (q09 : Int) (q0c : Nat) (q0d : Nat) (x1 : Nat) := (pF (z8s q00 q03 q01 q04 q02 q05 q06 q07 q09 q0c q0d x1) 0 (zbw q00 q03 q01 q04 q02 q05 q06 q07 q09 q0c q0d x1))
noncomputable def zbg (q00 : Nat) (q03 : List Nat) (q01 : Nat) (q04 : List Nat) (q02 : Nat) (q05 : List Nat) (q06 : Nat) (q07 : List Nat) (q09 : Int) (q0c : Nat) (q0d : Nat) (x1 : Nat) := (pF (zfo (z0m q00 q03 q01 q04 q02 q05 q06 q07 q09 q0c q0d x1) (z0x q00 q03 q01 q04 q02 q05 q06 q07 q09 q0c q0d x1) (z0o q00 q03 q01 q04 q02 q05 q06 q07 q09 q0c q0d x1) (z0v q00 q03 q01 q04 q02 q05 q06 q07 q09 q0c q0d x1) (z0p q00 q03 q01 q04 q02 q05 q06 q07 q09 q0c q0d x1) (z0t q00 q03 q01 q04 q02 q05 q06 q07 q09 q0c q0d x1) (z0n q00 q03 q01 q04 q02 q05 q06 q07 q09 q0c q0d x1) (z0u q00 q03 q01 q04 q02 q05 q06 q07 q09 q0c q0d x1) q09 q0c q0d x1) 0 (muN (z9n q00 q03 q01 q04 q02 q05 q06 q07 q09 q0c q0d x1) 3))
noncomputable def zbh (q00 : Nat) (q03 : List Nat) (q01 : Nat) (q04 : List Nat) (q02 : Nat) (q05 : List Nat) (q06 : Nat) (q07 : List Nat) (q09 : Int) (q0c : Nat) (q0d : Nat) (x1 : Nat) := (pF (zfy (z0m q00 q03 q01 q04 q02 q05 q06 q07 q09 q0c q0d x1) (z0x q00 q03 q01 q04 q02 q05 q06 q07 q09 q0c q0d x1) (z0o q00 q03 q01 q04 q02 q05 q06 q07 q09 q0c q0d x1) (z0v q00 q03 q01 q04 q02 q05 q06 q07 q09 q0c q0d x1) (z0p q00 q03 q01 q04 q02 q05 q06 q07 q09 q0c q0d x1) (z0t q00 q03 q01 q04 q02 q05 q06 q07 q09 q0c q0d x1) (z0n q00 q03 q01 q04 q02 q05 q06 q07 q09 q0c q0d x1) (z0u q00 q03 q01 q04 q02 q05 q06 q07 q09 q0c q0d x1) q09 q0c q0d x1) 0 (muN (z9t q00 q03 q01 q04 q02 q05 q06 q07 q09 q0c q0d x1) 1))
noncomputable def zbb (q00 : Nat) (q03 : List Nat) (q01 : Nat) (q04 : List Nat) (q02 : Nat) (q05 : List Nat) (q06 : Nat) (q07 : List Nat) (q09 : Int) (q0c : Nat) (q0d : Nat) (x1 : Nat) := (pF (zhu (z0m q00 q03 q01 q04 q02 q05 q06 q07 q09 q0c q0d x1) (z0x q00 q03 q01 q04 q02 q05 q06 q07 q09 q0c q0d x1) (z0o q00 q03 q01 q04 q02 q05 q06 q07 q09 q0c q0d x1) (z0v q00 q03 q01 q04 q02 q05 q06 q07 q09 q0c q0d x1) (z0p q00 q03 q01 q04 q02 q05 q06 q07 q09 q0c q0d x1) (z0t q00 q03 q01 q04 q02 q05 q06 q07 q09 q0c q0d x1) (z0n q00 q03 q01 q04 q02 q05 q06 q07 q09 q0c q0d x1) (z0u q00 q03 q01 q04 q02 q05 q06 q07 q09 q0c q0d x1) q09 q0c q0d x1) 0 (muN (z9p q00 q03 q01 q04 q02 q05 q06 q07 q09 q0c q0d x1) 1))
noncomputable def zbf (q00 : Nat) (q03 : List Nat) (q01 : Nat) (q04 : List Nat) (q02 : Nat) (q05 : List Nat) (q06 : Nat) (q07 : List Nat) (q09 : Int) (q0c : Nat) (q0d : Nat) (x1 : Nat) := (pF (zi1 (z0m q00 q03 q01 q04 q02 q05 q06 q07 q09 q0c q0d x1) (z0x q00 q03 q01 q04 q02 q05 q06 q07 q09 q0c q0d x1) (z0o q00 q03 q01 q04 q02 q05 q06 q07 q09 q0c q0d x1) (z0v q00 q03 q01 q04 q02 q05 q06 q07 q09 q0c q0d x1) (z0p q00 q03 q01 q04 q02 q05 q06 q07 q09 q0c q0d x1) (z0t q00 q03 q01 q04 q02 q05 q06 q07 q09 q0c q0d x1) (z0n q00 q03 q01 q04 q02 q05 q06 q07 q09 q0c q0d x1) (z0u q00 q03 q01 q04 q02 q05 q06 q07 q09 q0c q0d x1) q09 q0c q0d x1) 0 (muN (z9s q00 q03 q01 q04 q02 q05 q06 q07 q09 q0c q0d x1) 1))
noncomputable def zbv (q00 : Nat) (q03 : List Nat) (q01 : Nat) (q04 : List Nat) (q02 : Nat) (q05 : List Nat) (q06 : Nat) (q07 : List Nat) (q09 : Int) (q0c : Nat) (q0d : Nat) (x1 : Nat) := (pF (z8o q00 q03 q01 q04 q02 q05 q06 q07 q09 q0c q0d x1) 0 (zbk q00 q03 q01 q04 q02 q05 q06 q07 q09 q0c q0d x1))
noncomputable def zby (q00 : Nat) (q03 : List Nat) (q01 : Nat) (q04 : List Nat) (q02 : Nat) (q05 : List Nat) (q06 : Nat) (q07 : List Nat) (q09 : Int) (q0c : Nat) (q0d : Nat) (x1 : Nat) := (pF (z6i (z5u q00 q03 q01 q04 q02 q05 q06 q07 q09 q0c q0d x1) 1 0 (z8s q00 q03 q01 q04 q02 q05 q06 q07 q09 q0c q0d x1)) 0 (zbw q00 q03 q01 q04 q02 q05 q06 q07 q09 q0c q0d x1))
noncomputable def z9r (q00 : Nat) (q03 : List Nat) (q01 : Nat) (q04 : List Nat) (q02 : Nat) (q05 : List Nat) (q06 : Nat) (q07 : List Nat) (q09 : Int) (q0c : Nat) (q0d : Nat) (x1 : Nat) := (z6f (z5t q00 q03 q01 q04 q02 q05 q06 q07 q09 q0c q0d x1) (z9o q00 q03 q01 q04 q02 q05 q06 q07 q09 q0c q0d x1) 0 (z8p q00 q03 q01 q04 q02 q05 q06 q07 q09 q0c q0d x1))
noncomputable def zbi (q00 : Nat) (q03 : List Nat) (q01 : Nat) (q04 : List Nat) (q02 : Nat) (q05 : List Nat) (q06 : Nat) (q07 : List Nat) (q09 : Int) (q0c : Nat) (q0d : Nat) (x1 : Nat) := (pF (z6m (z5t q00 q03 q01 q04 q02 q05 q06 q07 q09 q0c q0d x1) (z9o q00 q03 q01 q04 q02 q05 q06 q07 q09 q0c q0d x1) 0 (z8p q00 q03 q01 q04 q02 q05 q06 q07 q09 q0c q0d x1)) 0 (zbj q00 q03 q01 q04 q02 q05 q06 q07 q09 q0c q0d x1))
noncomputable def z9l (q00 : Nat) (q03 : List Nat) (q01 : Nat) (q04 : List Nat) (q02 : Nat) (q05 : List Nat) (q06 : Nat) (q07 : List Nat) (q09 : Int) (q0c : Nat) (q0d : Nat) (x1 : Nat) := (z6c (z5v q00 q03 q01 q04 q02 q05 q06 q07 q09 q0c q0d x1) (z9r q00 q03 q01 q04 q02 q05 q06 q07 q09 q0c q0d x1) 0 (z8o q00 q03 q01 q04 q02 q05 q06 q07 q09 q0c q0d x1))
noncomputable def zbe (q00 : Nat) (q03 : List Nat) (q01 : Nat) (q04 : List Nat) (q02 : Nat) (q05 : List Nat) (q06 : Nat) (q07 : List Nat) (q09 : Int) (q0c : Nat) (q0d : Nat) (x1 : Nat) := (pF (z6k (z5v q00 q03 q01 q04 q02 q05 q06 q07 q09 q0c q0d x1) (z9r q00 q03 q01 q04 q02 q05 q06 q07 q09 q0c q0d x1) 0 (z8o q00 q03 q01 q04 q02 q05 q06 q07 q09 q0c q0d x1)) 0 (zbk q00 q03 q01 q04 q02 q05 q06 q07 q09 q0c q0d x1))
noncomputable def zbp (q00 : Nat) (q03 : List Nat) (q01 : Nat) (q04 : List Nat) (q02 : Nat) (q05 : List Nat) (q06 : Nat) (q07 : List Nat) (q09 : Int) (q0c : Nat) (q0d : Nat) (x1 : Nat) := (pF (z6h (z5w q00 q03 q01 q04 q02 q05 q06 q07 q09 q0c q0d x1) (z9l q00 q03 q01 q04 q02 q05 q06 q07 q09 q0c q0d x1) 0 (z8r q00 q03 q01 q04 q02 q05 q06 q07 q09 q0c q0d x1)) 0 (zbq q00 q03 q01 q04 q02 q05 q06 q07 q09 q0c q0d x1))
noncomputable def z9k (q00 : Nat) (q03 : List Nat) (q01 : Nat) (q04 : List Nat) (q02 : Nat) (q05 : List Nat) (q06 : Nat) (q07 : List Nat) (q09 : Int) (q0c : Nat) (q0d : Nat) (x1 : Nat) := (zf9 (z5u q00 q03 q01 q04 q02 q05 q06 q07 q09 q0c q0d x1) (zbu q00 q03 q01 q04 q02 q05 q06 q07 q09 q0c q0d x1) (z5t q00 q03 q01 q04 q02 q05 q06 q07 q09 q0c q0d x1) (zbd q00 q03 q01 q04 q02 q05 q06 q07 q09 q0c q0d x1) (z5v q00 q03 q01 q04 q02 q05 q06 q07 q09 q0c q0d x1) (zbv q00 q03 q01 q04 q02 q05 q06 q07 q09 q0c q0d x1) (z5w q00 q03 q01 q04 q02 q05 q06 q07 q09 q0c q0d x1) (zbo q00 q03 q01 q04 q02 q05 q06 q07 q09 q0c q0d x1) (z8t q00 q03 q01 q04 q02 q05 q06 q07 q09 q0c q0d x1) (z8q q00 q03 q01 q04 q02 q05 q06 q07 q09 q0c q0d x1) (z8n q00 q03 q01 q04 q02 q05 q06 q07 q09 q0c q0d x1) (z9s q00 q03 q01 q04 q02 q05 q06 q07 q09 q0c q0d x1) (zbf q00 q03 q01 q04 q02 q05 q06 q07 q09 q0c q0d x1) (z9p q00 q03 q01 q04 q02 q05 q06 q07 q09 q0c q0d x1) (zbb q00 q03 q01 q04 q02 q05 q06 q07 q09 q0c q0d x1) (z9t q00 q03 q01 q04 q02 q05 q06 q07 q09 q0c q0d x1) (zbh q00 q03 q01 q04 q02 q05 q06 q07 q09 q0c q0d x1) (z9n q00 q03 q01 q04 q02 q05 q06 q07 q09 q0c q0d x1) (zbg q00 q03 q01 q04 q02 q05 q06 q07 q09 q0c q0d x1) (zbc q00 q03 q01 q04 q02 q05 q06 q07 q09 q0c q0d x1) (zbz q00 q03 q01 q04 q02 q05 q06 q07 q09 q0c q0d x1) (zbn q00 q03 q01 q04 q02 q05 q06 q07 q09 q0c q0d x1))
noncomputable def z9m (q00 : Nat) (q03 : List Nat) (q01 : Nat) (q04 : List Nat) (q02 : Nat) (q05 : List Nat) (q06 : Nat) (q07 : List Nat) (q09 : Int) (q0c : Nat) (q0d : Nat) (x1 : Nat) := (bnot (zea (z5u q00 q03 q01 q04 q02 q05 q06 q07 q09 q0c q0d x1) (zbu q00 q03 q01 q04 q02 q05 q06 q07 q09 q0c q0d x1) (z5t q00 q03 q01 q04 q02 q05 q06 q07 q09 q0c q0d x1) (zbd q00 q03 q01 q04 q02 q05 q06 q07 q09 q0c q0d x1) (z5v q00 q03 q01 q04 q02 q05 q06 q07 q09 q0c q0d x1) (zbv q00 q03 q01 q04 q02 q05 q06 q07 q09 q0c q0d x1) (z5w q00 q03 q01 q04 q02 q05 q06 q07 q09 q0c q0d x1) (zbo q00 q03 q01 q04 q02 q05 q06 q07 q09 q0c q0d x1) (z8t q00 q03 q01 q04 q02 q05 q06 q07 q09 q0c q0d x1) (z8q q00 q03 q01 q04 q02 q05 q06 q07 q09 q0c q0d x1) (z8n q00 q03 q01 q04 q02 q05 q06 q07 q09 q0c q0d x1) (z9s q00 q03 q01 q04 q02 q05 q06 q07 q09 q0c q0d x1) (zbf q00 q03 q01 q04 q02 q05 q06 q07 q09 q0c q0d x1) (z9p q00 q03 q01 q04 q02 q05 q06 q07 q09 q0c q0d x1) (zbb q00 q03 q01 q04 q02 q05 q06 q07 q09 q0c q0d x1) (z9t q00 q03 q01 q04 q02 q05 q06 q07 q09 q0c q0d x1) (zbh q00 q03 q01 q04 q02 q05 q06 q07 q09 q0c q0d x1) (z9n q00 q03 q01 q04 q02 q05 q06 q07 q09 q0c q0d x1) (zbg q00 q03 q01 q04 q02 q05 q06 q07 q09 q0c q0d x1) (zbc q00 q03 q01 q04 q02 q05 q06 q07 q09 q0c q0d x1) (zbz q00 q03 q01 q04 q02 q05 q06 q07 q09 q0c q0d x1) (zbn q00 q03 q01 q04 q02 q05 q06 q07 q09 q0c q0d x1)))
noncomputable def zbt (q00 : Nat) (q03 : List Nat) (q01 : Nat) (q04 : List Nat) (q02 : Nat) (q05 : List Nat) (q06 : Nat) (q07 : List Nat) (q09 : Int) (q0c : Nat) (q0d : Nat) (x1 : Nat) := (zjp (z5u q00 q03 q01 q04 q02 q05 q06 q07 q09 q0c q0d x1) (zby q00 q03 q01 q04 q02 q05 q06 q07 q09 q0c q0d x1) (z5t q00 q03 q01 q04 q02 q05 q06 q07 q09 q0c q0d x1) (zbi q00 q03 q01 q04 q02 q05 q06 q07 q09 q0c q0d x1) (z5v q00 q03 q01 q04 q02 q05 q06 q07 q09 q0c q0d x1) (zbe q00 q03 q01 q04 q02 q05 q06 q07 q09 q0c q0d x1) (z5w q00 q03 q01 q04 q02 q05 q06 q07 q09 q0c q0d x1) (zbp q00 q03 q01 q04 q02 q05 q06 q07 q09 q0c q0d x1) (z8t q00 q03 q01 q04 q02 q05 q06 q07 q09 q0c q0d x1) (z8q q00 q03 q01 q04 q02 q05 q06 q07 q09 q0c q0d x1) (z8n q00 q03 q01 q04 q02 q05 q06 q07 q09 q0c q0d x1) 1)
noncomputable def zbx (q00 : Nat) (q03 : List Nat) (q01 : Nat) (q04 : List Nat) (q02 : Nat) (q05 : List Nat) (q06 : Nat) (q07 : List Nat) (q09 : Int) (q0c : Nat) (q0d : Nat) (x1 : Nat) := (zky (z5u q00 q03 q01 q04 q02 q05 q06 q07 q09 q0c q0d x1) (zby q00 q03 q01 q04 q02 q05 q06 q07 q09 q0c q0d x1) (z5t q00 q03 q01 q04 q02 q05 q06 q07 q09 q0c q0d x1) (zbi q00 q03 q01 q04 q02 q05 q06 q07 q09 q0c q0d x1) (z5v q00 q03 q01 q04 q02 q05 q06 q07 q09 q0c q0d x1) (zbe q00 q03 q01 q04 q02 q05 q06 q07 q09 q0c q0d x1) (z5w q00 q03 q01 q04 q02 q05 q06 q07 q09 q0c q0d x1) (zbp q00 q03 q01 q04 q02 q05 q06 q07 q09 q0c q0d x1) (z8t q00 q03 q01 q04 q02 q05 q06 q07 q09 q0c q0d x1) (z8q q00 q03 q01 q04 q02 q05 q06 q07 q09 q0c q0d x1) (z8n q00 q03 q01 q04 q02 q05 q06 q07 q09 q0c q0d x1) 1)
noncomputable def zbr (q00 : Nat) (q03 : List Nat) (q01 : Nat) (q04 : List Nat) (q02 : Nat) (q05 : List Nat) (q06 : Nat) (q07 : List Nat) (q09 : Int) (q0c : Nat) (q0d : Nat) (x1 : Nat) := (ltI (zbt q00 q03 q01 q04 q02 q05 q06 q07 q09 q0c q0d x1) 0)
noncomputable def zbl (q00 : Nat) (q03 : List Nat) (q01 : Nat) (q04 : List Nat) (q02 : Nat) (q05 : List Nat) (q06 : Nat) (q07 : List Nat) (q09 : Int) (q0c : Nat) (q0d : Nat) (x1 : Nat) := (neI (zbt q00 q03 q01 q04 q02 q05 q06 q07 q09 q0c q0d x1) (z6g (z5w q00 q03 q01 q04 q02 q05 q06 q07 q09 q0c q0d x1) (z9l q00 q03 q01 q04 q02 q05 q06 q07 q09 q0c q0d x1) 0 (z8r q00 q03 q01 q04 q02 q05 q06 q07 q09 q0c q0d x1)))
noncomputable def z98 {R : Type} (q00 : Nat) (q03 : List Nat) (q01 : Nat) (q04 : List Nat) (q02 : Nat) (q05 : List Nat) (q06 : Nat) (q07 : List Nat) (q09 : Int) (q0c : Nat) (q0d : Nat) (x1 : Nat) (k_ : Bool → Option R) : Option R := (grd (zkf q00 (pF q03 0 (muN q00 1)) q01 (pF q04 0 (muN q01 1)) q02 (pF q05 0 (muN q02 1)) q06 (pF q07 0 (muN q06 3)) q09 q0c q0d 1048576) (br (ltI (zi5 q00 (pF q03 0 (muN q00 1)) q01 (pF q04 0 (muN q01 1)) q02 (pF q05 0 (muN q02 1)) q06 (pF q07 0 (muN q06 3)) q09 q0c q0d 1048576) 0) (k_ Bool.true) (grd (z95 q00 q03 q01 q04 q02 q05 q06 q07 q09 q0c q0d x1) (grd (zjr (z0m q00 q03 q01 q04 q02 q05 q06 q07 q09 q0c q0d x1) (z0x q00 q03 q01 q04 q02 q05 q06 q07 q09 q0c q0d x1) (z0o q00 q03 q01 q04 q02 q05 q06 q07 q09 q0c q0d x1) (z0v q00 q03 q01 q04 q02 q05 q06 q07 q09 q0c q0d x1) (z0p q00 q03 q01 q04 q02 q05 q06 q07 q09 q0c q0d x1) (z0t q00 q03 q01 q04 q02 q05 q06 q07 q09 q0c q0d x1) (z0n q00 q03 q01 q04 q02 q05 q06 q07 q09 q0c q0d x1) (z0u q00 q03 q01 q04 q02 q05 q06 q07 q09 q0c q0d x1) q09 q0c q0d x1) (grd (z95 q00 q03 q01 q04 q02 q05 q06 q07 q09 q0c q0d x1) (grd (zba q00 q03 q01 q04 q02 q05 q06 q07 q09 q0c q0d x1) (grd (z9k q00 q03 q01 q04 q02 q05 q06 q07 q09 q0c q0d x1) (br (z9m q00 q03 q01 q04 q02 q05 q06 q07 q09 q0c q0d x1) (k_ Bool.false) (br (z9u q00 q03 q01 q04 q02 q05 q06 q07 q09 q0c q0d x1) (k_ Bool.false) (grd (z95 q00 q03 q01 q04 q02 q05 q06 q07 q09 q0c q0d x1) (grd (zf9 (z0m q00 q03 q01 q04 q02 q05 q06 q07 q09 q0c q0d x1) (z0x q00 q03 q01 q04 q02 q05 q06 q07 q09 q0c q0d x1) (z0o q00 q03 q01 q04 q02 q05 q06 q07 q09 q0c q0d x1) (z0v q00 q03 q01 q04 q02 q05 q06 q07 q09 q0c q0d x1) (z0p q00 q03 q01 q04 q02 q05 q06 q07 q09 q0c q0d x1) (z0t q00 q03 q01 q04 q02 q05 q06 q07 q09 q0c q0d x1) (z0n q00 q03 q01 q04 q02 q05 q06 q07 q09 q0c q0d x1) (z0u q00 q03 q01 q04 q02 q05 q06 q07 q09 q0c q0d x1) q09 q0c q0d (z0m q00 q03 q01 q04 q02 q05 q06 q07 q09 q0c q0d x1) (z0x q00 q03 q01 q04 q02 q05 q06 q07 q09 q0c q0d x1) (z0o q00 q03 q01 q04 q02 q05 q06 q07 q09 q0c q0d x1) (z0v q00 q03 q01 q04 q02 q05 q06 q07 q09 q0c q0d x1) (z0p q00 q03 q01 q04 q02 q05 q06 q07 q09 q0c q0d x1) (z0t q00 q03 q01 q04 q02 q05 q06 q07 q09 q0c q0d x1) (z0n q00 q03 q01 q04 q02 q05 q06 q07 q09 q0c q0d x1) (z0u q00 q03 q01 q04 q02 q05 q06 q07 q09 q0c q0d x1) q09 q0c q0d) (br (bnot (zea (z0m q00 q03 q01 q04 q02 q05 q06 q07 q09 q0c q0d x1) (z0x q00 q03 q01 q04 q02 q05 q06 q07 q09 q0c q0d x1) (z0o q00 q03 q01 q04 q02 q05 q06 q07 q09 q0c q0d x1) (z0v q00 q03 q01 q04 q02 q05 q06 q07 q09 q0c q0d x1) (z0p q00 q03 q01 q04 q02 q05 q06 q07 q09 q0c q0d x1) (z0t q00 q03 q01 q04 q02 q05 q06 q07 q09 q0c q0d x1) (z0n q00 q03 q01 q04 q02 q05 q06 q07 q09 q0c q0d x1) (z0u q00 q03 q01 q04 q02 q05 q06 q07 q09 q0c q0d x1) q09 q0c q0d (z0m q00 q03 q01 q04 q02 q05 q06 q07 q09 q0c q0d x1) (z0x q00 q03 q01 q04 q02 q05 q06 q07 q09 q0c q0d x1) (z0o q00 q03 q01 q04 q02 q05 q06 q07 q09 q0c q0d x1) (z0v q00 q03 q01 q04 q02 q05 q06 q07 q09 q0c q0d x1) (z0p q00 q03 q01 q04 q02 q05 q06 q07 q09 q0c q0d x1) (z0t q00 q03 q01 q04 q02 q05 q06 q07 q09 q0c q0d x1) (z0n q00 q03 q01 q04 q02 q05 q06 q07 q09 q0c q0d x1) (z0u q00 q03 q01 q04 q02 q05 q06 q07 q09 q0c q0d x1) q09 q0c q0d)) (k_ Bool.false) (grd (z7o (z0m q00 q03 q01 q04 q02 q05 q06 q07 q09 q0c q0d x1) 1 0 (za4 q00 q03 q01 q04 q02 q05 q06 q07 q09 q0c q0d x1)) (grd (z75 (z0o q00 q03 q01 q04 q02 q05 q06 q07 q09 q0c q0d x1) (zcl q00 q03 q01 q04 q02 q05 q06 q07 q09 q0c q0d x1) 0 (za3 q00 q03 q01 q04 q02 q05 q06 q07 q09 q0c q0d x1)) (grd (z70 (z0p q00 q03 q01 q04 q02 q05 q06 q07 q09 q0c q0d x1) (zbm q00 q03 q01 q04 q02 q05 q06 q07 q09 q0c q0d x1) 0 (za6 q00 q03 q01 q04 q02 q05 q06 q07 q09 q0c q0d x1)) (grd (z7m (z0n q00 q03 q01 q04 q02 q05 q06 q07 q09 q0c q0d x1) (zbs q00 q03 q01 q04 q02 q05 q06 q07 q09 q0c q0d x1) 0 (za0 q00 q03 q01 q04 q02 q05 q06 q07 q09 q0c q0d x1)) (br (ltI (z6u (z0n q00 q03 q01 q04 q02 q05 q06 q07 q09 q0c q0d x1) (zbs q00 q03 q01 q04 q02 q05 q06 q07 q09 q0c q0d x1) 0 (za0 q00 q03 q01 q04 q02 q05 q06 q07 q09 q0c q0d x1)) 0) (k_ Bool.false) (grd (z9k q00 q03 q01 q04 q02 q05 q06 q07 q09 q0c q0d x1) (br (z9m q00 q03 q01 q04 q02 q05 q06 q07 q09 q0c q0d x1) (k_ Bool.false) (br (z9u q00 q03 q01 q04 q02 q05 q06 q07 q09 q0c q0d x1) (k_ Bool.false) (grd (z74 (z5u q00 q03 q01 q04 q02 q05 q06 q07 q09 q0c q0d x1) 1 0 (z8s q00 q03 q01 q04 q02 q05 q06 q07 q09 q0c q0d x1)) (grd (z7a (z5t q00 q03 q01 q04 q02 q05 q06 q07 q09 q0c q0d x1) (z9o q00 q03 q01 q04 q02 q05 q06 q07 q09 q0c q0d x1) 0 (z8p q00 q03 q01 q04 q02 q05 q06 q07 q09 q0c q0d x1)) (grd (z73 (z5v q00 q03 q01 q04 q02 q05 q06 q07 q09 q0c q0d x1) (z9r q00 q03 q01 q04 q02 q05 q06 q07 q09 q0c q0d x1) 0 (z8o q00 q03 q01 q04 q02 q05 q06 q07 q09 q0c q0d x1)) (grd (z76 (z5w q00 q03 q01 q04 q02 q05 q06 q07 q09 q0c q0d x1) (z9l q00 q03 q01 q04 q02 q05 q06 q07 q09 q0c q0d x1) 0 (z8r q00 q03 q01 q04 q02 q05 q06 q07 q09 q0c q0d x1)) (grd (zbx q00 q03 q01 q04 q02 q05 q06 q07 q09 q0c q0d x1) (br (zbr q00 q03 q01 q04 q02 q05 q06 q07 q09 q0c q0d x1) (k_ Bool.false) (br (zbl q00 q03 q01 q04 q02 q05 q06 q07 q09 q0c q0d x1) (k_ Bool.false) (grd (z95 q00 q03 q01 q04 q02 q05 q06 q07 q09 q0c q0d x1) (grd (zba q00 q03 q01 q04 q02 q05 q06 q07 q09 q0c q0d x1) (grd (z9k q00 q03 q01 q04 q02 q05 q06 q07 q09 q0c q0d x1) (br (z9m q00 q03 q01 q04 q02 q05 q06 q07 q09 q0c q0d x1) (k_ Bool.false) (br (z9u q00 q03 q01 q04 q02 q05 q06 q07 q09 q0c q0d x1) (k_ Bool.false) (grd (zbx q00 q03 q01 q04 q02 q05 q06 q07 q09 q0c q0d x1) (br (zbr q00 q03 q01 q04 q02 q05 q06 q07 q09 q0c q0d x1) (k_ Bool.false) (br (zbl q00 q03 q01 q04 q02 q05 q06 q07 q09 q0c q0d x1) (k_ Bool.false) (k_ Bool.true))))))))))))))))))))))))))))))))))))
noncomputable def z9b (q00 : Nat) (q03 : List Nat) (q01 : Nat) (q04 : List Nat) (q02 : Nat) (q05 : List Nat) (q06 : Nat) (q07 : List Nat) (q09 : Int) (q0c : Nat) (q0d : Nat) (x1 : Nat) : Option (Bool) := z98 q00 q03 q01 q04 q02 q05 q06 q07 q09 q0c q0d x1 (fun c0_ => some c0_)
theorem zmr {R R' : Type} (o : Option R → Option R') (h0 : o none = none) (q00 : Nat) (q03 : List Nat) (q01 : Nat) (q04 : List Nat) (q02 : Nat) (q05 : List Nat) (q06 : Nat) (q07 : List Nat) (q09 : Int) (q0c : Nat) (q0d : Nat) (x1 : Nat) (k_ : Bool → Option R) : z98 q00 q03 q01 q04 q02 q05 q06 q07 q09 q0c q0d x1 (fun c0_ => o (k_ c0_)) = o (z98 q00 q03 q01 q04 q02 q05 q06 q07 q09 q0c q0d x1 k_) := by
  unfold z98
  repeat (first | refine grd_out h0 ?_ | refine br_out ?_ ?_ | rfl | exact h0.symm)
noncomputable def zff (q00 : Nat) (q03 : List Nat) (q01 : Nat) (q04 : List Nat) (q02 : Nat) (q05 : List Nat) (q06 : Nat) (q07 : List Nat) (q09 : Int) (q0c : Nat) (q0d : Nat) (x1 : Nat) : Bool := (z9b q00 q03 q01 q04 q02 q05 q06 q07 q09 q0c q0d x1).isSome
noncomputable def zet (q00 : Nat) (q03 : List Nat) (q01 : Nat) (q04 : List Nat) (q02 : Nat) (q05 : List Nat) (q06 : Nat) (q07 : List Nat) (q09 : Int) (q0c : Nat) (q0d : Nat) (x1 : Nat) : Bool := ((z9b q00 q03 q01 q04 q02 q05 q06 q07 q09 q0c q0d x1).getD default)
theorem znf {q00 : Nat} {q03 : List Nat} {q01 : Nat} {q04 : List Nat} {q02 : Nat} {q05 : List Nat} {q06 : Nat} {q07 : List Nat} {q09 : Int} {q0c : Nat} {q0d : Nat} {x1 : Nat} {r : Bool} (h : z9b q00 q03 q01 q04 q02 q05 q06 q07 q09 q0c q0d x1 = some r) : zff q00 q03 q01 q04 q02 q05 q06 q07 q09 q0c q0d x1 = true ∧ zet q00 q03 q01 q04 q02 q05 q06 q07 q09 q0c q0d x1 = r := by
  unfold zff zet
  rw [h]
  exact ⟨rfl, rfl⟩
end Go.Rf
