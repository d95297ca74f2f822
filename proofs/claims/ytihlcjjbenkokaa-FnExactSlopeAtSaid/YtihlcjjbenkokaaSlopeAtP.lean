import Derived.Test.YtihlcjjbenkokaaB
set_option linter.unusedVariables false
set_option linter.unusedSimpArgs false
set_option maxRecDepth 100000
set_option maxHeartbeats 4000000
namespace Go.Rf
open Go
noncomputable def z5u {R : Type} (a : Nat) (b : Nat) (k_ : Bool → Option R) : Option R := (br (fcmp BinOp.neq FloatKind.f64 a a) (br (fcmp BinOp.neq FloatKind.f64 a a) (k_ (fcmp BinOp.neq FloatKind.f64 b b)) (k_ Bool.false)) (br (fcmp BinOp.neq FloatKind.f64 b b) (br (fcmp BinOp.neq FloatKind.f64 a a) (k_ (fcmp BinOp.neq FloatKind.f64 b b)) (k_ Bool.false)) (br (fcmp BinOp.eql FloatKind.f64 a 0) (br (fcmp BinOp.eql FloatKind.f64 b 0) (k_ (beqB (fcmp BinOp.gtr FloatKind.f64 (fop BinOp.quo FloatKind.f64 4607182418800017408 a) 0) (fcmp BinOp.gtr FloatKind.f64 (fop BinOp.quo FloatKind.f64 4607182418800017408 b) 0))) (k_ (fcmp BinOp.eql FloatKind.f64 a b))) (k_ (fcmp BinOp.eql FloatKind.f64 a b)))))
noncomputable def z64 (a : Nat) (b : Nat) : Option (Bool) := z5u a b (fun c0_ => some c0_)
theorem zbn {R R' : Type} (o : Option R → Option R') (h0 : o none = none) (a : Nat) (b : Nat) (k_ : Bool → Option R) : z5u a b (fun c0_ => o (k_ c0_)) = o (z5u a b k_) := by
  unfold z5u
  repeat (first | refine grd_out h0 ?_ | refine br_out ?_ ?_ | rfl | exact h0.symm)
noncomputable def z73 (a : Nat) (b : Nat) : Bool := (z64 a b).isSome
noncomputable def z6m (a : Nat) (b : Nat) : Bool := ((z64 a b).getD default)
theorem zac {a : Nat} {b : Nat} {r : Bool} (h : z64 a b = some r) : z73 a b = true ∧ z6m a b = r := by
  unfold z73 z6m
  rw [h]
  exact ⟨rfl, rfl⟩
noncomputable def z5q {R : Type} (a_n : Nat) (a : List Nat) (q0w : Int) (k_ : Int → Option R) : Option R := (br (ltI (subI IntKind.i64 q0w (Int.ofNat a_n)) 0) (k_ (Int.negSucc 0)) (k_ (subI IntKind.i64 q0w (Int.ofNat a_n))))
noncomputable def z5n (a_n : Nat) (a : List Nat) (q0w : Int) : Option (Int) := z5q a_n a q0w (fun c0_ => some c0_)
theorem zbi {R R' : Type} (o : Option R → Option R') (h0 : o none = none) (a_n : Nat) (a : List Nat) (q0w : Int) (k_ : Int → Option R) : z5q a_n a q0w (fun c0_ => o (k_ c0_)) = o (z5q a_n a q0w k_) := by
  unfold z5q
  repeat (first | refine grd_out h0 ?_ | refine br_out ?_ ?_ | rfl | exact h0.symm)
noncomputable def z5m (a_n : Nat) (a : List Nat) (q0w : Int) : Bool := (z5n a_n a q0w).isSome
noncomputable def z38 (a_n : Nat) (a : List Nat) (q0w : Int) : Int := ((z5n a_n a q0w).getD default)
theorem z9i {a_n : Nat} {a : List Nat} {q0w : Int} {r : Int} (h : z5n a_n a q0w = some r) : z5m a_n a q0w = true ∧ z38 a_n a q0w = r := by
  unfold z5m z38
  rw [h]
  exact ⟨rfl, rfl⟩
noncomputable def z7l {R : Type} (x : Nat) (k_ : Bool → Option R) : Option R := (k_ (fcmp BinOp.eql FloatKind.f32 (fop BinOp.sub FloatKind.f32 x x) 0))
noncomputable def z7p (x : Nat) : Option (Bool) := z7l x (fun c0_ => some c0_)
theorem zc2 {R R' : Type} (o : Option R → Option R') (h0 : o none = none) (x : Nat) (k_ : Bool → Option R) : z7l x (fun c0_ => o (k_ c0_)) = o (z7l x k_) := by
  unfold z7l
  repeat (first | refine grd_out h0 ?_ | refine br_out ?_ ?_ | rfl | exact h0.symm)
noncomputable def z5e (x : Nat) : Bool := (z7p x).isSome
noncomputable def z53 (x : Nat) : Bool := ((z7p x).getD default)
theorem z8z {x : Nat} {r : Bool} (h : z7p x = some r) : z5e x = true ∧ z53 x = r := by
  unfold z5e z53
  rw [h]
  exact ⟨rfl, rfl⟩
noncomputable def z71 {R : Type} (x : Nat) (k_ : Bool → Option R) : Option R := (k_ (fcmp BinOp.eql FloatKind.f32 (fop BinOp.sub FloatKind.f32 x x) 0))
noncomputable def z72 (x : Nat) : Option (Bool) := z71 x (fun c0_ => some c0_)
theorem zbw {R R' : Type} (o : Option R → Option R') (h0 : o none = none) (x : Nat) (k_ : Bool → Option R) : z71 x (fun c0_ => o (k_ c0_)) = o (z71 x k_) := by
  unfold z71
  repeat (first | refine grd_out h0 ?_ | refine br_out ?_ ?_ | rfl | exact h0.symm)
noncomputable def z4e (x : Nat) : Bool := (z72 x).isSome
noncomputable def z44 (x : Nat) : Bool := ((z72 x).getD default)
theorem z88 {x : Nat} {r : Bool} (h : z72 x = some r) : z4e x = true ∧ z44 x = r := by
  unfold z4e z44
  rw [h]
  exact ⟨rfl, rfl⟩
noncomputable def z6h {R : Type} (x : Nat) (low : Nat) (q14 : Nat) (k_ : Bool → Option R) : Option R := (br (fcmp BinOp.geq FloatKind.f32 x low) (k_ (fcmp BinOp.leq FloatKind.f32 x q14)) (k_ Bool.false))
noncomputable def z6f (x : Nat) (low : Nat) (q14 : Nat) : Option (Bool) := z6h x low q14 (fun c0_ => some c0_)
theorem zc7 {R R' : Type} (o : Option R → Option R') (h0 : o none = none) (x : Nat) (low : Nat) (q14 : Nat) (k_ : Bool → Option R) : z6h x low q14 (fun c0_ => o (k_ c0_)) = o (z6h x low q14 k_) := by
  unfold z6h
  repeat (first | refine grd_out h0 ?_ | refine br_out ?_ ?_ | rfl | exact h0.symm)
noncomputable def z98 (x : Nat) (low : Nat) (q14 : Nat) : Bool := (z6f x low q14).isSome
noncomputable def z8t (x : Nat) (low : Nat) (q14 : Nat) : Bool := ((z6f x low q14).getD default)
theorem zdc {x : Nat} {low : Nat} {q14 : Nat} {r : Bool} (h : z6f x low q14 = some r) : z98 x low q14 = true ∧ z8t x low q14 = r := by
  unfold z98 z8t
  rw [h]
  exact ⟨rfl, rfl⟩
noncomputable def z68 {R : Type} (x : Nat) (k_ : Nat → Option R) : Option R := (grd (fcvB FloatKind.f64 FloatKind.f32 x) (k_ (fcvV FloatKind.f64 FloatKind.f32 x)))
noncomputable def z5t (x : Nat) : Option (Nat) := z68 x (fun c0_ => some c0_)
theorem zbo {R R' : Type} (o : Option R → Option R') (h0 : o none = none) (x : Nat) (k_ : Nat → Option R) : z68 x (fun c0_ => o (k_ c0_)) = o (z68 x k_) := by
  unfold z68
  repeat (first | refine grd_out h0 ?_ | refine br_out ?_ ?_ | rfl | exact h0.symm)
noncomputable def z8w (x : Nat) : Bool := (z5t x).isSome
noncomputable def z6l (x : Nat) : Nat := ((z5t x).getD default)
theorem zcr {x : Nat} {r : Nat} (h : z5t x = some r) : z8w x = true ∧ z6l x = r := by
  unfold z8w z6l
  rw [h]
  exact ⟨rfl, rfl⟩
noncomputable def z62 {R : Type} (q0c : Nat) (q0l : List Nat) (q0e : Nat) (q0n : List Nat) (q0h : Nat) (q0o : List Nat) (q0w : Int) (k_ : Int → Option R) : Option R := (grd (z5m q0c (pF q0l 0 (muN q0c 1)) q0w) (br (ltI (z38 q0c (pF q0l 0 (muN q0c 1)) q0w) 0) (k_ (Int.negSucc 0)) (grd (z5m q0e (pF q0n 0 (muN q0e 1)) (z38 q0c (pF q0l 0 (muN q0c 1)) q0w)) (br (ltI (z38 q0e (pF q0n 0 (muN q0e 1)) (z38 q0c (pF q0l 0 (muN q0c 1)) q0w)) 0) (k_ (Int.negSucc 0)) (grd (z5m q0h (pF q0o 0 (muN q0h 1)) (z38 q0e (pF q0n 0 (muN q0e 1)) (z38 q0c (pF q0l 0 (muN q0c 1)) q0w))) (br (ltI (z38 q0h (pF q0o 0 (muN q0h 1)) (z38 q0e (pF q0n 0 (muN q0e 1)) (z38 q0c (pF q0l 0 (muN q0c 1)) q0w))) 0) (k_ (Int.negSucc 0)) (k_ (z38 q0h (pF q0o 0 (muN q0h 1)) (z38 q0e (pF q0n 0 (muN q0e 1)) (z38 q0c (pF q0l 0 (muN q0c 1)) q0w))))))))))
noncomputable def z69 (q0c : Nat) (q0l : List Nat) (q0e : Nat) (q0n : List Nat) (q0h : Nat) (q0o : List Nat) (q0w : Int) : Option (Int) := z62 q0c q0l q0e q0n q0h q0o q0w (fun c0_ => some c0_)
theorem zbz {R R' : Type} (o : Option R → Option R') (h0 : o none = none) (q0c : Nat) (q0l : List Nat) (q0e : Nat) (q0n : List Nat) (q0h : Nat) (q0o : List Nat) (q0w : Int) (k_ : Int → Option R) : z62 q0c q0l q0e q0n q0h q0o q0w (fun c0_ => o (k_ c0_)) = o (z62 q0c q0l q0e q0n q0h q0o q0w k_) := by
  unfold z62
  repeat (first | refine grd_out h0 ?_ | refine br_out ?_ ?_ | rfl | exact h0.symm)
noncomputable def z74 (q0c : Nat) (q0l : List Nat) (q0e : Nat) (q0n : List Nat) (q0h : Nat) (q0o : List Nat) (q0w : Int) : Bool := (z69 q0c q0l q0e q0n q0h q0o q0w).isSome
noncomputable def z6k (q0c : Nat) (q0l : List Nat) (q0e : Nat) (q0n : List Nat) (q0h : Nat) (q0o : List Nat) (q0w : Int) : Int := ((z69 q0c q0l q0e q0n q0h q0o q0w).getD default)
theorem zcv {q0c : Nat} {q0l : List Nat} {q0e : Nat} {q0n : List Nat} {q0h : Nat} {q0o : List Nat} {q0w : Int} {r : Int} (h : z69 q0c q0l q0e q0n q0h q0o q0w = some r) : z74 q0c q0l q0e q0n q0h q0o q0w = true ∧ z6k q0c q0l q0e q0n q0h q0o q0w = r := by
  unfold z74 z6k
  rw [h]
  exact ⟨rfl, rfl⟩
noncomputable def z5v {R : Type} (x : Nat) (k_ : Nat → Bool → Option R) : Option R := (grd (z4e x) (br (bnot (z44 x)) (k_ 0 Bool.false) (k_ x Bool.true)))
noncomputable def z52 (x : Nat) : Option (Nat × Bool) := z5v x (fun c0_ c1_ => some (c0_, c1_))
theorem zbr {R R' : Type} (o : Option R → Option R') (h0 : o none = none) (x : Nat) (k_ : Nat → Bool → Option R) : z5v x (fun c0_ c1_ => o (k_ c0_ c1_)) = o (z5v x k_) := by
  unfold z5v
  repeat (first | refine grd_out h0 ?_ | refine br_out ?_ ?_ | rfl | exact h0.symm)
noncomputable def z90 (x : Nat) : Bool := (z52 x).isSome
noncomputable def z84 (x : Nat) : Nat := ((z52 x).getD default).1
noncomputable def z87 (x : Nat) : Bool := ((z52 x).getD default).2
theorem zcw {x : Nat} {r : Nat × Bool} (h : z52 x = some r) : z90 x = true ∧ z84 x = r.1 ∧ z87 x = r.2 := by
  unfold z90 z84 z87
  rw [h]
  exact ⟨rfl, rfl, rfl⟩
noncomputable def z6v {R : Type} (x : Nat) (k_ : Nat → Bool → Option R) : Option R := (grd (z5e x) (br (bnot (z53 x)) (k_ 0 Bool.false) (k_ x Bool.true)))
noncomputable def z61 (x : Nat) : Option (Nat × Bool) := z6v x (fun c0_ c1_ => some (c0_, c1_))
theorem zcd {R R' : Type} (o : Option R → Option R') (h0 : o none = none) (x : Nat) (k_ : Nat → Bool → Option R) : z6v x (fun c0_ c1_ => o (k_ c0_ c1_)) = o (z6v x k_) := by
  unfold z6v
  repeat (first | refine grd_out h0 ?_ | refine br_out ?_ ?_ | rfl | exact h0.symm)
noncomputable def z9k (x : Nat) : Bool := (z61 x).isSome
noncomputable def z95 (x : Nat) : Nat := ((z61 x).getD default).1
noncomputable def z99 (x : Nat) : Bool := ((z61 x).getD default).2
theorem zdq {x : Nat} {r : Nat × Bool} (h : z61 x = some r) : z9k x = true ∧ z95 x = r.1 ∧ z99 x = r.2 := by
  unfold z9k z95 z99
  rw [h]
  exact ⟨rfl, rfl, rfl⟩
noncomputable def z6e {R : Type} (x : Nat) (k_ : Bool → Option R) : Option R := (grd (z4e x) (br (z44 x) (k_ (fcmp BinOp.geq FloatKind.f32 x 0)) (k_ Bool.false)))
noncomputable def z6g (x : Nat) : Option (Bool) := z6e x (fun c0_ => some c0_)
theorem zc8 {R R' : Type} (o : Option R → Option R') (h0 : o none = none) (x : Nat) (k_ : Bool → Option R) : z6e x (fun c0_ => o (k_ c0_)) = o (z6e x k_) := by
  unfold z6e
  repeat (first | refine grd_out h0 ?_ | refine br_out ?_ ?_ | rfl | exact h0.symm)
noncomputable def z5c (x : Nat) : Bool := (z6g x).isSome
noncomputable def z51 (x : Nat) : Bool := ((z6g x).getD default)
theorem zd7 {x : Nat} {r : Bool} (h : z6g x = some r) : z5c x = true ∧ z51 x = r := by
  unfold z5c z51
  rw [h]
  exact ⟨rfl, rfl⟩
noncomputable def z70 {R : Type} (x : Nat) (k_ : Bool → Option R) : Option R := (grd (z5e x) (br (z53 x) (k_ (fcmp BinOp.geq FloatKind.f32 x 0)) (k_ Bool.false)))
noncomputable def z6t (x : Nat) : Option (Bool) := z70 x (fun c0_ => some c0_)
theorem zcj {R R' : Type} (o : Option R → Option R') (h0 : o none = none) (x : Nat) (k_ : Bool → Option R) : z70 x (fun c0_ => o (k_ c0_)) = o (z70 x k_) := by
  unfold z70
  repeat (first | refine grd_out h0 ?_ | refine br_out ?_ ?_ | rfl | exact h0.symm)
noncomputable def z9p (x : Nat) : Bool := (z6t x).isSome
noncomputable def z94 (x : Nat) : Bool := ((z6t x).getD default)
theorem zdj {x : Nat} {r : Bool} (h : z6t x = some r) : z9p x = true ∧ z94 x = r := by
  unfold z9p z94
  rw [h]
  exact ⟨rfl, rfl⟩
noncomputable def z54 {R : Type} (x : Nat) (k_ : Bool → Option R) : Option R := (grd (z5e x) (k_ (bnot (z53 x))))
noncomputable def z58 (x : Nat) : Option (Bool) := z54 x (fun c0_ => some c0_)
theorem zb2 {R R' : Type} (o : Option R → Option R') (h0 : o none = none) (x : Nat) (k_ : Bool → Option R) : z54 x (fun c0_ => o (k_ c0_)) = o (z54 x k_) := by
  unfold z54
  repeat (first | refine grd_out h0 ?_ | refine br_out ?_ ?_ | rfl | exact h0.symm)
noncomputable def z7v (x : Nat) : Bool := (z58 x).isSome
noncomputable def z77 (x : Nat) : Bool := ((z58 x).getD default)
theorem zc3 {x : Nat} {r : Bool} (h : z58 x = some r) : z7v x = true ∧ z77 x = r := by
  unfold z7v z77
  rw [h]
  exact ⟨rfl, rfl⟩
noncomputable def z3x {R : Type} (an : Nat) (q13 : Nat) (b0 : List Nat) (i : Int) (b1 : List Nat) (kn_ : Int → (List Nat) → Option R) (k0_ : Int → Bool → (List Nat) → Option R) : Option R := (br (ltI i (Int.ofNat an)) (grd (okIx i an) (grd (okIx i q13) (kn_ (addI IntKind.i64 i 1) (sF b1 (ixO 0 i 1) (gF b0 (ixO 0 i 1)))))) (k0_ i (ltI i (Int.ofNat an)) b1))
theorem zae {R R' : Type} (o : Option R → Option R') (h0 : o none = none) (an : Nat) (q13 : Nat) (b0 : List Nat) (i : Int) (b1 : List Nat) (kn_ : Int → (List Nat) → Option R) (k0_ : Int → Bool → (List Nat) → Option R) : z3x an q13 b0 i b1 (fun i' b1' => o (kn_ i' b1')) (fun c0_ c1_ c2_ => o (k0_ c0_ c1_ c2_)) = o (z3x an q13 b0 i b1 kn_ k0_) := by
  unfold z3x
  repeat (first | refine grd_out h0 ?_ | refine br_out ?_ ?_ | rfl | exact h0.symm)
noncomputable def z3i (an : Nat) (q13 : Nat) (b0 : List Nat) : Nat → Int → (List Nat) → Option ((Int × Bool × (List Nat)))
  | 0, _, _ => none
  | n + 1, i, b1 => z3x an q13 b0  i b1  (fun i' b1' => z3i an q13 b0 n i' b1') (fun c0_ c1_ c2_ => some (c0_, c1_, c2_))
theorem z9c (an : Nat) (q13 : Nat) (b0 : List Nat) (n : Nat) (i : Int) (b1 : List Nat) : z3i an q13 b0 (n + 1) i b1 = z3x an q13 b0  i b1  (fun i' b1' => z3i an q13 b0 n i' b1') (fun c0_ c1_ c2_ => some (c0_, c1_, c2_)) := rfl
noncomputable def z5d (an : Nat) (q13 : Nat) (b0 : List Nat) (i : Int) (b1 : List Nat) : Bool := (z3i an q13 b0 big i b1).isSome
noncomputable def z7c (an : Nat) (q13 : Nat) (b0 : List Nat) (i : Int) (b1 : List Nat) : Int := ((z3i an q13 b0 big i b1).getD default).1
noncomputable def z7h (an : Nat) (q13 : Nat) (b0 : List Nat) (i : Int) (b1 : List Nat) : Bool := ((z3i an q13 b0 big i b1).getD default).2.1
noncomputable def z4r (an : Nat) (q13 : Nat) (b0 : List Nat) (i : Int) (b1 : List Nat) : List Nat := ((z3i an q13 b0 big i b1).getD default).2.2
theorem zb3 {an : Nat} {q13 : Nat} {b0 : List Nat} {i : Int} {b1 : List Nat} {m : Nat} {r : Int × Bool × (List Nat)} (hm : m = big) (h : z3i an q13 b0 m i b1 = some r) : z5d an q13 b0 i b1 = true ∧ z7c an q13 b0 i b1 = r.1 ∧ z7h an q13 b0 i b1 = r.2.1 ∧ z4r an q13 b0 i b1 = r.2.2 := by
  subst hm
  unfold z5d z7c z7h z4r
  rw [h]
  exact ⟨rfl, rfl, rfl, rfl⟩
noncomputable def z5k {R : Type} (a_n : Nat) (a : List Nat) (k_ : Nat → (List Nat) → Option R) : Option R := (grd (okMk (Int.ofNat a_n) (Int.ofNat a_n) 4) (grd (z5d a_n (toN (Int.ofNat a_n)) a 0 (rF (muN (toN (Int.ofNat a_n)) 1))) (k_ (toN (Int.ofNat a_n)) (z4r a_n (toN (Int.ofNat a_n)) a 0 (rF (muN (toN (Int.ofNat a_n)) 1))))))
noncomputable def z4s (a_n : Nat) (a : List Nat) : Option (Nat × (List Nat)) := z5k a_n a (fun c0_ c1_ => some (c0_, c1_))
theorem zbj {R R' : Type} (o : Option R → Option R') (h0 : o none = none) (a_n : Nat) (a : List Nat) (k_ : Nat → (List Nat) → Option R) : z5k a_n a (fun c0_ c1_ => o (k_ c0_ c1_)) = o (z5k a_n a k_) := by
  unfold z5k
  repeat (first | refine grd_out h0 ?_ | refine br_out ?_ ?_ | rfl | exact h0.symm)
noncomputable def z5o (a_n : Nat) (a : List Nat) : Bool := (z4s a_n a).isSome
noncomputable def z56 (a_n : Nat) (a : List Nat) : Nat := ((z4s a_n a).getD default).1
noncomputable def z55 (a_n : Nat) (a : List Nat) : List Nat := ((z4s a_n a).getD default).2
theorem z9g {a_n : Nat} {a : List Nat} {r : Nat × (List Nat)} (h : z4s a_n a = some r) : z5o a_n a = true ∧ z56 a_n a = r.1 ∧ z55 a_n a = r.2 := by
  unfold z5o z56 z55
  rw [h]
  exact ⟨rfl, rfl, rfl⟩
noncomputable def z5p {R : Type} (x : Nat) (k_ : Bool → Option R) : Option R := (grd (z9p x) (k_ (bnot (z94 x))))
noncomputable def z5i (x : Nat) : Option (Bool) := z5p x (fun c0_ => some c0_)
theorem zbe {R R' : Type} (o : Option R → Option R') (h0 : o none = none) (x : Nat) (k_ : Bool → Option R) : z5p x (fun c0_ => o (k_ c0_)) = o (z5p x k_) := by
  unfold z5p
  repeat (first | refine grd_out h0 ?_ | refine br_out ?_ ?_ | rfl | exact h0.symm)
noncomputable def z86 (x : Nat) : Bool := (z5i x).isSome
noncomputable def z7q (x : Nat) : Bool := ((z5i x).getD default)
theorem zch {x : Nat} {r : Bool} (h : z5i x = some r) : z86 x = true ∧ z7q x = r := by
  unfold z86 z7q
  rw [h]
  exact ⟨rfl, rfl⟩
noncomputable def z3w {R : Type} (an : Nat) (bn : Nat) (b0 : List Nat) (b1 : List Nat) (i : Int) (kn_ : Int → Option R) (k0_ : Unit → Option R) (k1_ : Int → Bool → Option R) : Option R := (br (ltI i (Int.ofNat an)) (grd (okIx i an) (grd (okIx i bn) (grd (z73 (fcvV FloatKind.f32 FloatKind.f64 (gF b0 (ixO 0 i 1))) (fcvV FloatKind.f32 FloatKind.f64 (gF b1 (ixO 0 i 1)))) (br (bnot (z6m (fcvV FloatKind.f32 FloatKind.f64 (gF b0 (ixO 0 i 1))) (fcvV FloatKind.f32 FloatKind.f64 (gF b1 (ixO 0 i 1))))) (k0_ ()) (kn_ (addI IntKind.i64 i 1)))))) (k1_ i (ltI i (Int.ofNat an))))
theorem zai {R R' : Type} (o : Option R → Option R') (h0 : o none = none) (an : Nat) (bn : Nat) (b0 : List Nat) (b1 : List Nat) (i : Int) (kn_ : Int → Option R) (k0_ : Unit → Option R) (k1_ : Int → Bool → Option R) : z3w an bn b0 b1 i (fun i' => o (kn_ i')) (fun _ => o (k0_ ())) (fun c0_ c1_ => o (k1_ c0_ c1_)) = o (z3w an bn b0 b1 i kn_ k0_ k1_) := by
  unfold z3w
  repeat (first | refine grd_out h0 ?_ | refine br_out ?_ ?_ | rfl | exact h0.symm)
noncomputable def z3j (an : Nat) (bn : Nat) (b0 : List Nat) (b1 : List Nat) : Nat → Int → Option ((Unit) ⊕ (Int × Bool))
  | 0, _ => none
  | n + 1, i => z3w an bn b0 b1  i  (fun i' => z3j an bn b0 b1 n i') (fun _ => some (Sum.inl ())) (fun c0_ c1_ => some (Sum.inr (c0_, c1_)))
theorem z96 (an : Nat) (bn : Nat) (b0 : List Nat) (b1 : List Nat) (n : Nat) (i : Int) : z3j an bn b0 b1 (n + 1) i = z3w an bn b0 b1  i  (fun i' => z3j an bn b0 b1 n i') (fun _ => some (Sum.inl ())) (fun c0_ c1_ => some (Sum.inr (c0_, c1_))) := rfl
noncomputable def z6q (an : Nat) (bn : Nat) (b0 : List Nat) (b1 : List Nat) (i : Int) : Bool := (z3j an bn b0 b1 big i).isSome
noncomputable def z6d (an : Nat) (bn : Nat) (b0 : List Nat) (b1 : List Nat) (i : Int) : Bool := oL (z3j an bn b0 b1 big i)
noncomputable def z7a (an : Nat) (bn : Nat) (b0 : List Nat) (b1 : List Nat) (i : Int) : Int := ((tR (z3j an bn b0 b1 big i)).getD default).1
noncomputable def z7d (an : Nat) (bn : Nat) (b0 : List Nat) (b1 : List Nat) (i : Int) : Bool := ((tR (z3j an bn b0 b1 big i)).getD default).2
theorem zay {an : Nat} {bn : Nat} {b0 : List Nat} {b1 : List Nat} {i : Int} {m : Nat} {r : Int × Bool} (hm : m = big) (h : z3j an bn b0 b1 m i = some (Sum.inr r)) : z6q an bn b0 b1 i = true ∧ z6d an bn b0 b1 i = false ∧ z7a an bn b0 b1 i = r.1 ∧ z7d an bn b0 b1 i = r.2 := by
  subst hm
  unfold z6q z6d z7a z7d
  rw [h]
  exact ⟨rfl, rfl, rfl, rfl⟩
noncomputable def z65 {R : Type} (q0c : Nat) (q0l : List Nat) (q0e : Nat) (q0n : List Nat) (q0h : Nat) (q0o : List Nat) (k_ : Nat → Nat → Nat → (List Nat) → (List Nat) → (List Nat) → Option R) : Option R := (grd (z5o q0c (pF q0l 0 (muN q0c 1))) (grd (z5o q0e (pF q0n 0 (muN q0e 1))) (grd (z5o q0h (pF q0o 0 (muN q0h 1))) (k_ (z56 q0c (pF q0l 0 (muN q0c 1))) (z56 q0e (pF q0n 0 (muN q0e 1))) (z56 q0h (pF q0o 0 (muN q0h 1))) (z55 q0c (pF q0l 0 (muN q0c 1))) (z55 q0e (pF q0n 0 (muN q0e 1))) (z55 q0h (pF q0o 0 (muN q0h 1)))))))
noncomputable def z40 (q0c : Nat) (q0l : List Nat) (q0e : Nat) (q0n : List Nat) (q0h : Nat) (q0o : List Nat) : Option (Nat × Nat × Nat × (List Nat) × (List Nat) × (List Nat)) := z65 q0c q0l q0e q0n q0h q0o (fun c0_ c1_ c2_ c3_ c4_ c5_ => some (c0_, c1_, c2_, c3_, c4_, c5_))
theorem zbs {R R' : Type} (o : Option R → Option R') (h0 : o none = none) (q0c : Nat) (q0l : List Nat) (q0e : Nat) (q0n : List Nat) (q0h : Nat) (q0o : List Nat) (k_ : Nat → Nat → Nat → (List Nat) → (List Nat) → (List Nat) → Option R) : z65 q0c q0l q0e q0n q0h q0o (fun c0_ c1_ c2_ c3_ c4_ c5_ => o (k_ c0_ c1_ c2_ c3_ c4_ c5_)) = o (z65 q0c q0l q0e q0n q0h q0o k_) := by
  unfold z65
  repeat (first | refine grd_out h0 ?_ | refine br_out ?_ ?_ | rfl | exact h0.symm)
noncomputable def z50 (q0c : Nat) (q0l : List Nat) (q0e : Nat) (q0n : List Nat) (q0h : Nat) (q0o : List Nat) : Bool := (z40 q0c q0l q0e q0n q0h q0o).isSome
noncomputable def z2c (q0c : Nat) (q0l : List Nat) (q0e : Nat) (q0n : List Nat) (q0h : Nat) (q0o : List Nat) : Nat := ((z40 q0c q0l q0e q0n q0h q0o).getD default).1
noncomputable def z2f (q0c : Nat) (q0l : List Nat) (q0e : Nat) (q0n : List Nat) (q0h : Nat) (q0o : List Nat) : Nat := ((z40 q0c q0l q0e q0n q0h q0o).getD default).2.1
noncomputable def z2e (q0c : Nat) (q0l : List Nat) (q0e : Nat) (q0n : List Nat) (q0h : Nat) (q0o : List Nat) : Nat := ((z40 q0c q0l q0e q0n q0h q0o).getD default).2.2.1
noncomputable def z36 (q0c : Nat) (q0l : List Nat) (q0e : Nat) (q0n : List Nat) (q0h : Nat) (q0o : List Nat) : List Nat := ((z40 q0c q0l q0e q0n q0h q0o).getD default).2.2.2.1
noncomputable def z35 (q0c : Nat) (q0l : List Nat) (q0e : Nat) (q0n : List Nat) (q0h : Nat) (q0o : List Nat) : List Nat := ((z40 q0c q0l q0e q0n q0h q0o).getD default).2.2.2.2.1
noncomputable def z37 (q0c : Nat) (q0l : List Nat) (q0e : Nat) (q0n : List Nat) (q0h : Nat) (q0o : List Nat) : List Nat := ((z40 q0c q0l q0e q0n q0h q0o).getD default).2.2.2.2.2
theorem zcu {q0c : Nat} {q0l : List Nat} {q0e : Nat} {q0n : List Nat} {q0h : Nat} {q0o : List Nat} {r : Nat × Nat × Nat × (List Nat) × (List Nat) × (List Nat)} (h : z40 q0c q0l q0e q0n q0h q0o = some r) : z50 q0c q0l q0e q0n q0h q0o = true ∧ z2c q0c q0l q0e q0n q0h q0o = r.1 ∧ z2f q0c q0l q0e q0n q0h q0o = r.2.1 ∧ z2e q0c q0l q0e q0n q0h q0o = r.2.2.1 ∧ z36 q0c q0l q0e q0n q0h q0o = r.2.2.2.1 ∧ z35 q0c q0l q0e q0n q0h q0o = r.2.2.2.2.1 ∧ z37 q0c q0l q0e q0n q0h q0o = r.2.2.2.2.2 := by
  unfold z50 z2c z2f z2e z36 z35 z37
  rw [h]
  exact ⟨rfl, rfl, rfl, rfl, rfl, rfl, rfl⟩
noncomputable def z5j {R : Type} (a_n : Nat) (a : List Nat) (b_n : Nat) (b : List Nat) (k_ : Bool → Option R) : Option R := (br (neI (Int.ofNat a_n) (Int.ofNat b_n)) (k_ Bool.false) (grd (z6q a_n b_n a b 0) (br (z6d a_n b_n a b 0) (k_ Bool.false) (k_ Bool.true))))
noncomputable def z5h (a_n : Nat) (a : List Nat) (b_n : Nat) (b : List Nat) : Option (Bool) := z5j a_n a b_n b (fun c0_ => some c0_)
theorem zb6 {R R' : Type} (o : Option R → Option R') (h0 : o none = none) (a_n : Nat) (a : List Nat) (b_n : Nat) (b : List Nat) (k_ : Bool → Option R) : z5j a_n a b_n b (fun c0_ => o (k_ c0_)) = o (z5j a_n a b_n b k_) := by
  unfold z5j
  repeat (first | refine grd_out h0 ?_ | refine br_out ?_ ?_ | rfl | exact h0.symm)
noncomputable def z5l (a_n : Nat) (a : List Nat) (b_n : Nat) (b : List Nat) : Bool := (z5h a_n a b_n b).isSome
noncomputable def z57 (a_n : Nat) (a : List Nat) (b_n : Nat) (b : List Nat) : Bool := ((z5h a_n a b_n b).getD default)
theorem z9f {a_n : Nat} {a : List Nat} {b_n : Nat} {b : List Nat} {r : Bool} (h : z5h a_n a b_n b = some r) : z5l a_n a b_n b = true ∧ z57 a_n a b_n b = r := by
  unfold z5l z57
  rw [h]
  exact ⟨rfl, rfl⟩
noncomputable def z4j {R : Type} (t3 : Int) (b0 : List Nat) (b1 : List Nat) (b2 : List Nat) (q0j : Nat) (q0q : Nat) (q0p : Nat) (t4 : Int) (kn_ : Int → Option R) (k0_ : Unit → Option R) (k1_ : Int → Bool → Option R) : Option R := (br (ltI t4 t3) (grd (okIx t4 q0j) (br (fcmp BinOp.geq FloatKind.f32 (gF b0 (ixO 0 t4 1)) 3204448256) (grd (okIx t4 q0j) (br (bnot (fcmp BinOp.leq FloatKind.f32 (gF b0 (ixO 0 t4 1)) 1056964608)) (k0_ ()) (br (ltI 0 t4) (grd (okIx t4 q0j) (grd (okIx (subI IntKind.i64 t4 1) q0j) (br (fcmp BinOp.leq FloatKind.f32 (gF b0 (ixO 0 t4 1)) (gF b0 (ixO 0 (subI IntKind.i64 t4 1) 1))) (k0_ ()) (grd (okIx t4 q0q) (grd (z4e (gF b1 (ixO 0 t4 1))) (br (bnot (z44 (gF b1 (ixO 0 t4 1)))) (k0_ ()) (grd (okIx t4 q0p) (grd (z5c (gF b2 (ixO 0 t4 1))) (br (bnot (z51 (gF b2 (ixO 0 t4 1)))) (k0_ ()) (kn_ (addI IntKind.i64 t4 1))))))))))) (grd (okIx t4 q0q) (grd (z4e (gF b1 (ixO 0 t4 1))) (br (bnot (z44 (gF b1 (ixO 0 t4 1)))) (k0_ ()) (grd (okIx t4 q0p) (grd (z5c (gF b2 (ixO 0 t4 1))) (br (bnot (z51 (gF b2 (ixO 0 t4 1)))) (k0_ ()) (kn_ (addI IntKind.i64 t4 1))))))))))) (br (bnot Bool.false) (k0_ ()) (br (ltI 0 t4) (grd (okIx t4 q0j) (grd (okIx (subI IntKind.i64 t4 1) q0j) (br (fcmp BinOp.leq FloatKind.f32 (gF b0 (ixO 0 t4 1)) (gF b0 (ixO 0 (subI IntKind.i64 t4 1) 1))) (k0_ ()) (grd (okIx t4 q0q) (grd (z4e (gF b1 (ixO 0 t4 1))) (br (bnot (z44 (gF b1 (ixO 0 t4 1)))) (k0_ ()) (grd (okIx t4 q0p) (grd (z5c (gF b2 (ixO 0 t4 1))) (br (bnot (z51 (gF b2 (ixO 0 t4 1)))) (k0_ ()) (kn_ (addI IntKind.i64 t4 1))))))))))) (grd (okIx t4 q0q) (grd (z4e (gF b1 (ixO 0 t4 1))) (br (bnot (z44 (gF b1 (ixO 0 t4 1)))) (k0_ ()) (grd (okIx t4 q0p) (grd (z5c (gF b2 (ixO 0 t4 1))) (br (bnot (z51 (gF b2 (ixO 0 t4 1)))) (k0_ ()) (kn_ (addI IntKind.i64 t4 1)))))))))))) (k1_ t4 (ltI t4 t3)))
theorem zc5 {R R' : Type} (o : Option R → Option R') (h0 : o none = none) (t3 : Int) (b0 : List Nat) (b1 : List Nat) (b2 : List Nat) (q0j : Nat) (q0q : Nat) (q0p : Nat) (t4 : Int) (kn_ : Int → Option R) (k0_ : Unit → Option R) (k1_ : Int → Bool → Option R) : z4j t3 b0 b1 b2 q0j q0q q0p t4 (fun t4' => o (kn_ t4')) (fun _ => o (k0_ ())) (fun c0_ c1_ => o (k1_ c0_ c1_)) = o (z4j t3 b0 b1 b2 q0j q0q q0p t4 kn_ k0_ k1_) := by
  unfold z4j
  repeat (first | refine grd_out h0 ?_ | refine br_out ?_ ?_ | rfl | exact h0.symm)
noncomputable def z3t (t3 : Int) (b0 : List Nat) (b1 : List Nat) (b2 : List Nat) (q0j : Nat) (q0q : Nat) (q0p : Nat) : Nat → Int → Option ((Unit) ⊕ (Int × Bool))
  | 0, _ => none
  | n + 1, t4 => z4j t3 b0 b1 b2 q0j q0q q0p  t4  (fun t4' => z3t t3 b0 b1 b2 q0j q0q q0p n t4') (fun _ => some (Sum.inl ())) (fun c0_ c1_ => some (Sum.inr (c0_, c1_)))
theorem za0 (t3 : Int) (b0 : List Nat) (b1 : List Nat) (b2 : List Nat) (q0j : Nat) (q0q : Nat) (q0p : Nat) (n : Nat) (t4 : Int) : z3t t3 b0 b1 b2 q0j q0q q0p (n + 1) t4 = z4j t3 b0 b1 b2 q0j q0q q0p  t4  (fun t4' => z3t t3 b0 b1 b2 q0j q0q q0p n t4') (fun _ => some (Sum.inl ())) (fun c0_ c1_ => some (Sum.inr (c0_, c1_))) := rfl
noncomputable def z4t (t3 : Int) (b0 : List Nat) (b1 : List Nat) (b2 : List Nat) (q0j : Nat) (q0q : Nat) (q0p : Nat) (t4 : Int) : Bool := (z3t t3 b0 b1 b2 q0j q0q q0p big t4).isSome
noncomputable def z4n (t3 : Int) (b0 : List Nat) (b1 : List Nat) (b2 : List Nat) (q0j : Nat) (q0q : Nat) (q0p : Nat) (t4 : Int) : Bool := oL (z3t t3 b0 b1 b2 q0j q0q q0p big t4)
noncomputable def z9d (t3 : Int) (b0 : List Nat) (b1 : List Nat) (b2 : List Nat) (q0j : Nat) (q0q : Nat) (q0p : Nat) (t4 : Int) : Int := ((tR (z3t t3 b0 b1 b2 q0j q0q q0p big t4)).getD default).1
noncomputable def z9e (t3 : Int) (b0 : List Nat) (b1 : List Nat) (b2 : List Nat) (q0j : Nat) (q0q : Nat) (q0p : Nat) (t4 : Int) : Bool := ((tR (z3t t3 b0 b1 b2 q0j q0q q0p big t4)).getD default).2
theorem zcm {t3 : Int} {b0 : List Nat} {b1 : List Nat} {b2 : List Nat} {q0j : Nat} {q0q : Nat} {q0p : Nat} {t4 : Int} {m : Nat} {r : Unit} (hm : m = big) (h : z3t t3 b0 b1 b2 q0j q0q q0p m t4 = some (Sum.inl r)) : z4t t3 b0 b1 b2 q0j q0q q0p t4 = true ∧ z4n t3 b0 b1 b2 q0j q0q q0p t4 = true := by
  subst hm
  unfold z4t z4n
  rw [h]
  exact ⟨rfl, rfl⟩
theorem zcy {t3 : Int} {b0 : List Nat} {b1 : List Nat} {b2 : List Nat} {q0j : Nat} {q0q : Nat} {q0p : Nat} {t4 : Int} {m : Nat} {r : Int × Bool} (hm : m = big) (h : z3t t3 b0 b1 b2 q0j q0q q0p m t4 = some (Sum.inr r)) : z4t t3 b0 b1 b2 q0j q0q q0p t4 = true ∧ z4n t3 b0 b1 b2 q0j q0q q0p t4 = false ∧ z9d t3 b0 b1 b2 q0j q0q q0p t4 = r.1 ∧ z9e t3 b0 b1 b2 q0j q0q q0p t4 = r.2 := by
  subst hm
  unfold z4t z4n z9d z9e
  rw [h]
  exact ⟨rfl, rfl, rfl, rfl⟩
noncomputable def z2p {R : Type} (sn : Nat) (t7 : Int) (b0 : List Nat) (t8 : Int) (kn_ : Int → Option R) (k0_ : Int → Option R) (k1_ : Int → Bool → Option R) : Option R := (br (ltI t8 t7) (grd (okIx t8 sn) (grd (z7v (gF b0 (ixO 0 t8 1))) (br (z77 (gF b0 (ixO 0 t8 1))) (k0_ t8) (kn_ (addI IntKind.i64 t8 1))))) (k1_ t8 (ltI t8 t7)))
theorem z7g {R R' : Type} (o : Option R → Option R') (h0 : o none = none) (sn : Nat) (t7 : Int) (b0 : List Nat) (t8 : Int) (kn_ : Int → Option R) (k0_ : Int → Option R) (k1_ : Int → Bool → Option R) : z2p sn t7 b0 t8 (fun t8' => o (kn_ t8')) (fun c0_ => o (k0_ c0_)) (fun c0_ c1_ => o (k1_ c0_ c1_)) = o (z2p sn t7 b0 t8 kn_ k0_ k1_) := by
  unfold z2p
  repeat (first | refine grd_out h0 ?_ | refine br_out ?_ ?_ | rfl | exact h0.symm)
noncomputable def z18 (sn : Nat) (t7 : Int) (b0 : List Nat) : Nat → Int → Option ((Int) ⊕ (Int × Bool))
  | 0, _ => none
  | n + 1, t8 => z2p sn t7 b0  t8  (fun t8' => z18 sn t7 b0 n t8') (fun c0_ => some (Sum.inl c0_)) (fun c0_ c1_ => some (Sum.inr (c0_, c1_)))
theorem z4p (sn : Nat) (t7 : Int) (b0 : List Nat) (n : Nat) (t8 : Int) : z18 sn t7 b0 (n + 1) t8 = z2p sn t7 b0  t8  (fun t8' => z18 sn t7 b0 n t8') (fun c0_ => some (Sum.inl c0_)) (fun c0_ c1_ => some (Sum.inr (c0_, c1_))) := rfl
noncomputable def z34 (sn : Nat) (t7 : Int) (b0 : List Nat) (t8 : Int) : Bool := (z18 sn t7 b0 big t8).isSome
noncomputable def z30 (sn : Nat) (t7 : Int) (b0 : List Nat) (t8 : Int) : Bool := oL (z18 sn t7 b0 big t8)
noncomputable def z3m (sn : Nat) (t7 : Int) (b0 : List Nat) (t8 : Int) : Int := ((tL (z18 sn t7 b0 big t8)).getD default)
noncomputable def z49 (sn : Nat) (t7 : Int) (b0 : List Nat) (t8 : Int) : Int := ((tR (z18 sn t7 b0 big t8)).getD default).1
noncomputable def z48 (sn : Nat) (t7 : Int) (b0 : List Nat) (t8 : Int) : Bool := ((tR (z18 sn t7 b0 big t8)).getD default).2
theorem z7y {sn : Nat} {t7 : Int} {b0 : List Nat} {t8 : Int} {m : Nat} {r : Int} (hm : m = big) (h : z18 sn t7 b0 m t8 = some (Sum.inl r)) : z34 sn t7 b0 t8 = true ∧ z30 sn t7 b0 t8 = true ∧ z3m sn t7 b0 t8 = r := by
  subst hm
  unfold z34 z30 z3m
  rw [h]
  exact ⟨rfl, rfl, rfl⟩
theorem z7x {sn : Nat} {t7 : Int} {b0 : List Nat} {t8 : Int} {m : Nat} {r : Int × Bool} (hm : m = big) (h : z18 sn t7 b0 m t8 = some (Sum.inr r)) : z34 sn t7 b0 t8 = true ∧ z30 sn t7 b0 t8 = false ∧ z49 sn t7 b0 t8 = r.1 ∧ z48 sn t7 b0 t8 = r.2 := by
  subst hm
  unfold z34 z30 z49 z48
  rw [h]
  exact ⟨rfl, rfl, rfl, rfl⟩
noncomputable def z5w {R : Type} (q0c : Nat) (q0l : List Nat) (q0e : Nat) (q0n : List Nat) (q0h : Nat) (q0o : List Nat) (q0t : Nat) (q0y : List Nat) (q0u : Nat) (q12 : List Nat) (q0v : Nat) (q11 : List Nat) (k_ : Bool → Option R) : Option R := (grd (z5l q0c (pF q0l 0 (muN q0c 1)) q0t (pF q0y 0 (muN q0t 1))) (br (bnot (z57 q0c (pF q0l 0 (muN q0c 1)) q0t (pF q0y 0 (muN q0t 1)))) (k_ Bool.false) (grd (z5l q0e (pF q0n 0 (muN q0e 1)) q0u (pF q12 0 (muN q0u 1))) (br (bnot (z57 q0e (pF q0n 0 (muN q0e 1)) q0u (pF q12 0 (muN q0u 1)))) (k_ Bool.false) (grd (z5l q0h (pF q0o 0 (muN q0h 1)) q0v (pF q11 0 (muN q0v 1))) (br (bnot (z57 q0h (pF q0o 0 (muN q0h 1)) q0v (pF q11 0 (muN q0v 1)))) (k_ Bool.false) (k_ Bool.true)))))))
noncomputable def z5z (q0c : Nat) (q0l : List Nat) (q0e : Nat) (q0n : List Nat) (q0h : Nat) (q0o : List Nat) (q0t : Nat) (q0y : List Nat) (q0u : Nat) (q12 : List Nat) (q0v : Nat) (q11 : List Nat) : Option (Bool) := z5w q0c q0l q0e q0n q0h q0o q0t q0y q0u q12 q0v q11 (fun c0_ => some c0_)
theorem zbq {R R' : Type} (o : Option R → Option R') (h0 : o none = none) (q0c : Nat) (q0l : List Nat) (q0e : Nat) (q0n : List Nat) (q0h : Nat) (q0o : List Nat) (q0t : Nat) (q0y : List Nat) (q0u : Nat) (q12 : List Nat) (q0v : Nat) (q11 : List Nat) (k_ : Bool → Option R) : z5w q0c q0l q0e q0n q0h q0o q0t q0y q0u q12 q0v q11 (fun c0_ => o (k_ c0_)) = o (z5w q0c q0l q0e q0n q0h q0o q0t q0y q0u q12 q0v q11 k_) := by
  unfold z5w
  repeat (first | refine grd_out h0 ?_ | refine br_out ?_ ?_ | rfl | exact h0.symm)
noncomputable def z75 (q0c : Nat) (q0l : List Nat) (q0e : Nat) (q0n : List Nat) (q0h : Nat) (q0o : List Nat) (q0t : Nat) (q0y : List Nat) (q0u : Nat) (q12 : List Nat) (q0v : Nat) (q11 : List Nat) : Bool := (z5z q0c q0l q0e q0n q0h q0o q0t q0y q0u q12 q0v q11).isSome
noncomputable def z6n (q0c : Nat) (q0l : List Nat) (q0e : Nat) (q0n : List Nat) (q0h : Nat) (q0o : List Nat) (q0t : Nat) (q0y : List Nat) (q0u : Nat) (q12 : List Nat) (q0v : Nat) (q11 : List Nat) : Bool := ((z5z q0c q0l q0e q0n q0h q0o q0t q0y q0u q12 q0v q11).getD default)
theorem zct {q0c : Nat} {q0l : List Nat} {q0e : Nat} {q0n : List Nat} {q0h : Nat} {q0o : List Nat} {q0t : Nat} {q0y : List Nat} {q0u : Nat} {q12 : List Nat} {q0v : Nat} {q11 : List Nat} {r : Bool} (h : z5z q0c q0l q0e q0n q0h q0o q0t q0y q0u q12 q0v q11 = some r) : z75 q0c q0l q0e q0n q0h q0o q0t q0y q0u q12 q0v q11 = true ∧ z6n q0c q0l q0e q0n q0h q0o q0t q0y q0u q12 q0v q11 = r := by
  unfold z75 z6n
  rw [h]
  exact ⟨rfl, rfl⟩
noncomputable def z8c {R : Type} (q00 : Nat) (q01 : List Nat) (q05 : Nat) (q07 : List Nat) (q06 : Nat) (q08 : List Nat) (k_ : Bool → Option R) : Option R := (br (ltI (Int.ofNat q00) 2) (k_ Bool.false) (br (ltI 24 (Int.ofNat q00)) (k_ Bool.false) (br (neI (Int.ofNat q05) (Int.ofNat q00)) (k_ Bool.false) (br (neI (Int.ofNat q06) (Int.ofNat q00)) (k_ Bool.false) (grd (z4t (Int.ofNat q00) q01 q07 q08 q00 q05 q06 0) (br (z4n (Int.ofNat q00) q01 q07 q08 q00 q05 q06 0) (k_ Bool.false) (k_ Bool.true)))))))
noncomputable def z8g (q00 : Nat) (q01 : List Nat) (q05 : Nat) (q07 : List Nat) (q06 : Nat) (q08 : List Nat) : Option (Bool) := z8c q00 q01 q05 q07 q06 q08 (fun c0_ => some c0_)
theorem zd1 {R R' : Type} (o : Option R → Option R') (h0 : o none = none) (q00 : Nat) (q01 : List Nat) (q05 : Nat) (q07 : List Nat) (q06 : Nat) (q08 : List Nat) (k_ : Bool → Option R) : z8c q00 q01 q05 q07 q06 q08 (fun c0_ => o (k_ c0_)) = o (z8c q00 q01 q05 q07 q06 q08 k_) := by
  unfold z8c
  repeat (first | refine grd_out h0 ?_ | refine br_out ?_ ?_ | rfl | exact h0.symm)
noncomputable def z9y (q00 : Nat) (q01 : List Nat) (q05 : Nat) (q07 : List Nat) (q06 : Nat) (q08 : List Nat) : Bool := (z8g q00 q01 q05 q07 q06 q08).isSome
noncomputable def z9w (q00 : Nat) (q01 : List Nat) (q05 : Nat) (q07 : List Nat) (q06 : Nat) (q08 : List Nat) : Bool := ((z8g q00 q01 q05 q07 q06 q08).getD default)
theorem ze0 {q00 : Nat} {q01 : List Nat} {q05 : Nat} {q07 : List Nat} {q06 : Nat} {q08 : List Nat} {r : Bool} (h : z8g q00 q01 q05 q07 q06 q08 = some r) : z9y q00 q01 q05 q07 q06 q08 = true ∧ z9w q00 q01 q05 q07 q06 q08 = r := by
  unfold z9y z9w
  rw [h]
  exact ⟨rfl, rfl⟩
noncomputable def z3d {R : Type} (s_n : Nat) (s : List Nat) (k_ : Int → Option R) : Option R := (grd (z34 s_n (Int.ofNat s_n) s 0) (br (z30 s_n (Int.ofNat s_n) s 0) (k_ (z3m s_n (Int.ofNat s_n) s 0)) (k_ (Int.negSucc 0))))
noncomputable def z3c (s_n : Nat) (s : List Nat) : Option (Int) := z3d s_n s (fun c0_ => some c0_)
theorem z81 {R R' : Type} (o : Option R → Option R') (h0 : o none = none) (s_n : Nat) (s : List Nat) (k_ : Int → Option R) : z3d s_n s (fun c0_ => o (k_ c0_)) = o (z3d s_n s k_) := by
  unfold z3d
  repeat (first | refine grd_out h0 ?_ | refine br_out ?_ ?_ | rfl | exact h0.symm)
noncomputable def z3z (s_n : Nat) (s : List Nat) : Bool := (z3c s_n s).isSome
noncomputable def z3v (s_n : Nat) (s : List Nat) : Int := ((z3c s_n s).getD default)
theorem z8v {s_n : Nat} {s : List Nat} {r : Int} (h : z3c s_n s = some r) : z3z s_n s = true ∧ z3v s_n s = r := by
  unfold z3z z3v
  rw [h]
  exact ⟨rfl, rfl⟩
noncomputable def z2q {R : Type} (sn : Nat) (t7 : Int) (b0 : List Nat) (t8 : Int) (kn_ : Int → Option R) (k0_ : Int → Option R) (k1_ : Int → Bool → Option R) : Option R := (br (ltI t8 t7) (grd (okIx t8 sn) (grd (z86 (gF b0 (ixO 0 t8 1))) (br (z7q (gF b0 (ixO 0 t8 1))) (k0_ t8) (kn_ (addI IntKind.i64 t8 1))))) (k1_ t8 (ltI t8 t7)))
theorem z7o {R R' : Type} (o : Option R → Option R') (h0 : o none = none) (sn : Nat) (t7 : Int) (b0 : List Nat) (t8 : Int) (kn_ : Int → Option R) (k0_ : Int → Option R) (k1_ : Int → Bool → Option R) : z2q sn t7 b0 t8 (fun t8' => o (kn_ t8')) (fun c0_ => o (k0_ c0_)) (fun c0_ c1_ => o (k1_ c0_ c1_)) = o (z2q sn t7 b0 t8 kn_ k0_ k1_) := by
  unfold z2q
  repeat (first | refine grd_out h0 ?_ | refine br_out ?_ ?_ | rfl | exact h0.symm)
noncomputable def z1e (sn : Nat) (t7 : Int) (b0 : List Nat) : Nat → Int → Option ((Int) ⊕ (Int × Bool))
  | 0, _ => none
  | n + 1, t8 => z2q sn t7 b0  t8  (fun t8' => z1e sn t7 b0 n t8') (fun c0_ => some (Sum.inl c0_)) (fun c0_ c1_ => some (Sum.inr (c0_, c1_)))
theorem z4q (sn : Nat) (t7 : Int) (b0 : List Nat) (n : Nat) (t8 : Int) : z1e sn t7 b0 (n + 1) t8 = z2q sn t7 b0  t8  (fun t8' => z1e sn t7 b0 n t8') (fun c0_ => some (Sum.inl c0_)) (fun c0_ c1_ => some (Sum.inr (c0_, c1_))) := rfl
noncomputable def z3a (sn : Nat) (t7 : Int) (b0 : List Nat) (t8 : Int) : Bool := (z1e sn t7 b0 big t8).isSome
noncomputable def z32 (sn : Nat) (t7 : Int) (b0 : List Nat) (t8 : Int) : Bool := oL (z1e sn t7 b0 big t8)
noncomputable def z3o (sn : Nat) (t7 : Int) (b0 : List Nat) (t8 : Int) : Int := ((tL (z1e sn t7 b0 big t8)).getD default)
noncomputable def z4d (sn : Nat) (t7 : Int) (b0 : List Nat) (t8 : Int) : Int := ((tR (z1e sn t7 b0 big t8)).getD default).1
noncomputable def z4c (sn : Nat) (t7 : Int) (b0 : List Nat) (t8 : Int) : Bool := ((tR (z1e sn t7 b0 big t8)).getD default).2
theorem z82 {sn : Nat} {t7 : Int} {b0 : List Nat} {t8 : Int} {m : Nat} {r : Int} (hm : m = big) (h : z1e sn t7 b0 m t8 = some (Sum.inl r)) : z3a sn t7 b0 t8 = true ∧ z32 sn t7 b0 t8 = true ∧ z3o sn t7 b0 t8 = r := by
  subst hm
  unfold z3a z32 z3o
  rw [h]
  exact ⟨rfl, rfl, rfl⟩
theorem z7z {sn : Nat} {t7 : Int} {b0 : List Nat} {t8 : Int} {m : Nat} {r : Int × Bool} (hm : m = big) (h : z1e sn t7 b0 m t8 = some (Sum.inr r)) : z3a sn t7 b0 t8 = true ∧ z32 sn t7 b0 t8 = false ∧ z4d sn t7 b0 t8 = r.1 ∧ z4c sn t7 b0 t8 = r.2 := by
  subst hm
  unfold z3a z32 z4d z4c
  rw [h]
  exact ⟨rfl, rfl, rfl, rfl⟩
noncomputable def z7j {R : Type} (q09 : Nat) (q0i : List Nat) (q0a : Nat) (q0k : List Nat) (q0b : Nat) (q0m : List Nat) (q0r : Nat) (k_ : Bool → Option R) : Option R := (grd (z9y q09 (pF q0i 0 (muN q09 1)) q0a (pF q0k 0 (muN q0a 1)) q0b (pF q0m 0 (muN q0b 1))) (br (z9w q09 (pF q0i 0 (muN q09 1)) q0a (pF q0k 0 (muN q0a 1)) q0b (pF q0m 0 (muN q0b 1))) (grd (z4e q0r) (k_ (z44 q0r))) (k_ Bool.false)))
noncomputable def z7i (q09 : Nat) (q0i : List Nat) (q0a : Nat) (q0k : List Nat) (q0b : Nat) (q0m : List Nat) (q0r : Nat) : Option (Bool) := z7j q09 q0i q0a q0k q0b q0m q0r (fun c0_ => some c0_)
theorem zcq {R R' : Type} (o : Option R → Option R') (h0 : o none = none) (q09 : Nat) (q0i : List Nat) (q0a : Nat) (q0k : List Nat) (q0b : Nat) (q0m : List Nat) (q0r : Nat) (k_ : Bool → Option R) : z7j q09 q0i q0a q0k q0b q0m q0r (fun c0_ => o (k_ c0_)) = o (z7j q09 q0i q0a q0k q0b q0m q0r k_) := by
  unfold z7j
  repeat (first | refine grd_out h0 ?_ | refine br_out ?_ ?_ | rfl | exact h0.symm)
noncomputable def z9v (q09 : Nat) (q0i : List Nat) (q0a : Nat) (q0k : List Nat) (q0b : Nat) (q0m : List Nat) (q0r : Nat) : Bool := (z7i q09 q0i q0a q0k q0b q0m q0r).isSome
noncomputable def z9q (q09 : Nat) (q0i : List Nat) (q0a : Nat) (q0k : List Nat) (q0b : Nat) (q0m : List Nat) (q0r : Nat) : Bool := ((z7i q09 q0i q0a q0k q0b q0m q0r).getD default)
theorem zdx {q09 : Nat} {q0i : List Nat} {q0a : Nat} {q0k : List Nat} {q0b : Nat} {q0m : List Nat} {q0r : Nat} {r : Bool} (h : z7i q09 q0i q0a q0k q0b q0m q0r = some r) : z9v q09 q0i q0a q0k q0b q0m q0r = true ∧ z9q q09 q0i q0a q0k q0b q0m q0r = r := by
  unfold z9v z9q
  rw [h]
  exact ⟨rfl, rfl⟩
noncomputable def z3f {R : Type} (s_n : Nat) (s : List Nat) (k_ : Int → Option R) : Option R := (grd (z3a s_n (Int.ofNat s_n) s 0) (br (z32 s_n (Int.ofNat s_n) s 0) (k_ (z3o s_n (Int.ofNat s_n) s 0)) (k_ (Int.negSucc 0))))
noncomputable def z3g (s_n : Nat) (s : List Nat) : Option (Int) := z3f s_n s (fun c0_ => some c0_)
theorem z8i {R R' : Type} (o : Option R → Option R') (h0 : o none = none) (s_n : Nat) (s : List Nat) (k_ : Int → Option R) : z3f s_n s (fun c0_ => o (k_ c0_)) = o (z3f s_n s k_) := by
  unfold z3f
  repeat (first | refine grd_out h0 ?_ | refine br_out ?_ ?_ | rfl | exact h0.symm)
noncomputable def z43 (s_n : Nat) (s : List Nat) : Bool := (z3g s_n s).isSome
noncomputable def z3y (s_n : Nat) (s : List Nat) : Int := ((z3g s_n s).getD default)
theorem z92 {s_n : Nat} {s : List Nat} {r : Int} (h : z3g s_n s = some r) : z43 s_n s = true ∧ z3y s_n s = r := by
  unfold z43 z3y
  rw [h]
  exact ⟨rfl, rfl⟩
noncomputable def z8d {R : Type} (x : Nat) (k_ : Nat → Option R) : Option R := (grd (bnot (nanQ FloatKind.f64 x)) (k_ (fint Ieee.Toward.down x)))
noncomputable def z8e (x : Nat) : Option (Nat) := z8d x (fun c0_ => some c0_)
theorem zdd {R R' : Type} (o : Option R → Option R') (h0 : o none = none) (x : Nat) (k_ : Nat → Option R) : z8d x (fun c0_ => o (k_ c0_)) = o (z8d x k_) := by
  unfold z8d
  repeat (first | refine grd_out h0 ?_ | refine br_out ?_ ?_ | rfl | exact h0.symm)
noncomputable def z9h (x : Nat) : Bool := (z8e x).isSome
noncomputable def z4y (x : Nat) : Nat := ((z8e x).getD default)
theorem zc0 {x : Nat} {r : Nat} (h : z8e x = some r) : z9h x = true ∧ z4y x = r := by
  unfold z9h z4y
  rw [h]
  exact ⟨rfl, rfl⟩
noncomputable def z6z {R : Type} (x : Nat) (k_ : Nat → Option R) : Option R := (grd (z9h (fop BinOp.add FloatKind.f64 (fcvV FloatKind.f32 FloatKind.f64 x) 4602678819172646912)) (grd (z8w (fop BinOp.sub FloatKind.f64 (fcvV FloatKind.f32 FloatKind.f64 x) (z4y (fop BinOp.add FloatKind.f64 (fcvV FloatKind.f32 FloatKind.f64 x) 4602678819172646912)))) (br (fcmp BinOp.geq FloatKind.f32 (z6l (fop BinOp.sub FloatKind.f64 (fcvV FloatKind.f32 FloatKind.f64 x) (z4y (fop BinOp.add FloatKind.f64 (fcvV FloatKind.f32 FloatKind.f64 x) 4602678819172646912)))) 1056964608) (k_ 3204448256) (k_ (z6l (fop BinOp.sub FloatKind.f64 (fcvV FloatKind.f32 FloatKind.f64 x) (z4y (fop BinOp.add FloatKind.f64 (fcvV FloatKind.f32 FloatKind.f64 x) 4602678819172646912))))))))
noncomputable def z6x (x : Nat) : Option (Nat) := z6z x (fun c0_ => some c0_)
theorem zci {R R' : Type} (o : Option R → Option R') (h0 : o none = none) (x : Nat) (k_ : Nat → Option R) : z6z x (fun c0_ => o (k_ c0_)) = o (z6z x k_) := by
  unfold z6z
  repeat (first | refine grd_out h0 ?_ | refine br_out ?_ ?_ | rfl | exact h0.symm)
noncomputable def z9l (x : Nat) : Bool := (z6x x).isSome
noncomputable def z01 (x : Nat) : Nat := ((z6x x).getD default)
theorem zdg {x : Nat} {r : Nat} (h : z6x x = some r) : z9l x = true ∧ z01 x = r := by
  unfold z9l z01
  rw [h]
  exact ⟨rfl, rfl⟩
noncomputable def z5y {R : Type} (x : Nat) (k_ : Nat → Option R) : Option R := (grd (z9h (fop BinOp.add FloatKind.f64 (fcvV FloatKind.f32 FloatKind.f64 x) 4602678819172646912)) (grd (fcvB FloatKind.f64 FloatKind.f32 (fop BinOp.sub FloatKind.f64 (fcvV FloatKind.f32 FloatKind.f64 x) (z4y (fop BinOp.add FloatKind.f64 (fcvV FloatKind.f32 FloatKind.f64 x) 4602678819172646912)))) (br (fcmp BinOp.geq FloatKind.f32 (fcvV FloatKind.f64 FloatKind.f32 (fop BinOp.sub FloatKind.f64 (fcvV FloatKind.f32 FloatKind.f64 x) (z4y (fop BinOp.add FloatKind.f64 (fcvV FloatKind.f32 FloatKind.f64 x) 4602678819172646912)))) 1056964608) (k_ 3204448256) (k_ (fcvV FloatKind.f64 FloatKind.f32 (fop BinOp.sub FloatKind.f64 (fcvV FloatKind.f32 FloatKind.f64 x) (z4y (fop BinOp.add FloatKind.f64 (fcvV FloatKind.f32 FloatKind.f64 x) 4602678819172646912))))))))
noncomputable def z60 (x : Nat) : Option (Nat) := z5y x (fun c0_ => some c0_)
theorem zbl {R R' : Type} (o : Option R → Option R') (h0 : o none = none) (x : Nat) (k_ : Nat → Option R) : z5y x (fun c0_ => o (k_ c0_)) = o (z5y x k_) := by
  unfold z5y
  repeat (first | refine grd_out h0 ?_ | refine br_out ?_ ?_ | rfl | exact h0.symm)
noncomputable def z8s (x : Nat) : Bool := (z60 x).isSome
noncomputable def z2w (x : Nat) : Nat := ((z60 x).getD default)
theorem zck {x : Nat} {r : Nat} (h : z60 x = some r) : z8s x = true ∧ z2w x = r := by
  unfold z8s z2w
  rw [h]
  exact ⟨rfl, rfl⟩
noncomputable def z31 {R : Type} (s_n : Nat) (s : List Nat) (k_ : Bool → Option R) : Option R := (grd (z3z s_n (pF s 0 (muN s_n 1))) (k_ (leI 0 (z3v s_n (pF s 0 (muN s_n 1))))))
noncomputable def z33 (s_n : Nat) (s : List Nat) : Option (Bool) := z31 s_n s (fun c0_ => some c0_)
theorem z7e {R R' : Type} (o : Option R → Option R') (h0 : o none = none) (s_n : Nat) (s : List Nat) (k_ : Bool → Option R) : z31 s_n s (fun c0_ => o (k_ c0_)) = o (z31 s_n s k_) := by
  unfold z31
  repeat (first | refine grd_out h0 ?_ | refine br_out ?_ ?_ | rfl | exact h0.symm)
noncomputable def z3s (s_n : Nat) (s : List Nat) : Bool := (z33 s_n s).isSome
noncomputable def z3q (s_n : Nat) (s : List Nat) : Bool := ((z33 s_n s).getD default)
theorem z83 {s_n : Nat} {s : List Nat} {r : Bool} (h : z33 s_n s = some r) : z3s s_n s = true ∧ z3q s_n s = r := by
  unfold z3s z3q
  rw [h]
  exact ⟨rfl, rfl⟩
noncomputable def z39 {R : Type} (s_n : Nat) (s : List Nat) (k_ : Bool → Option R) : Option R := (grd (z43 s_n (pF s 0 (muN s_n 1))) (k_ (leI 0 (z3y s_n (pF s 0 (muN s_n 1))))))
noncomputable def z3b (s_n : Nat) (s : List Nat) : Option (Bool) := z39 s_n s (fun c0_ => some c0_)
theorem z7s {R R' : Type} (o : Option R → Option R') (h0 : o none = none) (s_n : Nat) (s : List Nat) (k_ : Bool → Option R) : z39 s_n s (fun c0_ => o (k_ c0_)) = o (z39 s_n s k_) := by
  unfold z39
  repeat (first | refine grd_out h0 ?_ | refine br_out ?_ ?_ | rfl | exact h0.symm)
noncomputable def z3u (s_n : Nat) (s : List Nat) : Bool := (z3b s_n s).isSome
noncomputable def z3r (s_n : Nat) (s : List Nat) : Bool := ((z3b s_n s).getD default)
theorem z8l {s_n : Nat} {s : List Nat} {r : Bool} (h : z3b s_n s = some r) : z3u s_n s = true ∧ z3r s_n s = r := by
  unfold z3u z3r
  rw [h]
  exact ⟨rfl, rfl⟩
noncomputable def z67 {R : Type} (q0s : Nat) (q0x : List Nat) (k_ : Bool → Option R) : Option R := (grd (z3s q0s (pF q0x 0 (muN q0s 1))) (k_ (bnot (z3q q0s (pF q0x 0 (muN q0s 1))))))
noncomputable def z66 (q0s : Nat) (q0x : List Nat) : Option (Bool) := z67 q0s q0x (fun c0_ => some c0_)
theorem zbk {R R' : Type} (o : Option R → Option R') (h0 : o none = none) (q0s : Nat) (q0x : List Nat) (k_ : Bool → Option R) : z67 q0s q0x (fun c0_ => o (k_ c0_)) = o (z67 q0s q0x k_) := by
  unfold z67
  repeat (first | refine grd_out h0 ?_ | refine br_out ?_ ?_ | rfl | exact h0.symm)
noncomputable def z8y (q0s : Nat) (q0x : List Nat) : Bool := (z66 q0s q0x).isSome
noncomputable def z8a (q0s : Nat) (q0x : List Nat) : Bool := ((z66 q0s q0x).getD default)
theorem zcl {q0s : Nat} {q0x : List Nat} {r : Bool} (h : z66 q0s q0x = some r) : z8y q0s q0x = true ∧ z8a q0s q0x = r := by
  unfold z8y z8a
  rw [h]
  exact ⟨rfl, rfl⟩
noncomputable def z6c {R : Type} (q0s : Nat) (q0x : List Nat) (k_ : Bool → Option R) : Option R := (grd (z3u q0s (pF q0x 0 (muN q0s 1))) (k_ (bnot (z3r q0s (pF q0x 0 (muN q0s 1))))))
noncomputable def z6j (q0s : Nat) (q0x : List Nat) : Option (Bool) := z6c q0s q0x (fun c0_ => some c0_)
theorem zc4 {R R' : Type} (o : Option R → Option R') (h0 : o none = none) (q0s : Nat) (q0x : List Nat) (k_ : Bool → Option R) : z6c q0s q0x (fun c0_ => o (k_ c0_)) = o (z6c q0s q0x k_) := by
  unfold z6c
  repeat (first | refine grd_out h0 ?_ | refine br_out ?_ ?_ | rfl | exact h0.symm)
noncomputable def z9b (q0s : Nat) (q0x : List Nat) : Bool := (z6j q0s q0x).isSome
noncomputable def z8x (q0s : Nat) (q0x : List Nat) : Bool := ((z6j q0s q0x).getD default)
theorem zde {q0s : Nat} {q0x : List Nat} {r : Bool} (h : z6j q0s q0x = some r) : z9b q0s q0x = true ∧ z8x q0s q0x = r := by
  unfold z9b z8x
  rw [h]
  exact ⟨rfl, rfl⟩
noncomputable def z4f {R : Type} (t8 : Nat) (b0 : List Nat) (q0j : Nat) (t10 : Int) (kn_ : Int → Option R) (k0_ : Int → Bool → Option R) : Option R := (br (leI 0 t10) (grd (okIx t10 q0j) (br (fcmp BinOp.gtr FloatKind.f32 (gF b0 (ixO 0 t10 1)) t8) (kn_ (subI IntKind.i64 t10 1)) (k0_ t10 (fcmp BinOp.gtr FloatKind.f32 (gF b0 (ixO 0 t10 1)) t8)))) (k0_ t10 Bool.false))
theorem zb8 {R R' : Type} (o : Option R → Option R') (h0 : o none = none) (t8 : Nat) (b0 : List Nat) (q0j : Nat) (t10 : Int) (kn_ : Int → Option R) (k0_ : Int → Bool → Option R) : z4f t8 b0 q0j t10 (fun t10' => o (kn_ t10')) (fun c0_ c1_ => o (k0_ c0_ c1_)) = o (z4f t8 b0 q0j t10 kn_ k0_) := by
  unfold z4f
  repeat (first | refine grd_out h0 ?_ | refine br_out ?_ ?_ | rfl | exact h0.symm)
noncomputable def z3n (t8 : Nat) (b0 : List Nat) (q0j : Nat) : Nat → Int → Option ((Int × Bool))
  | 0, _ => none
  | n + 1, t10 => z4f t8 b0 q0j  t10  (fun t10' => z3n t8 b0 q0j n t10') (fun c0_ c1_ => some (c0_, c1_))
theorem z9t (t8 : Nat) (b0 : List Nat) (q0j : Nat) (n : Nat) (t10 : Int) : z3n t8 b0 q0j (n + 1) t10 = z4f t8 b0 q0j  t10  (fun t10' => z3n t8 b0 q0j n t10') (fun c0_ c1_ => some (c0_, c1_)) := rfl
noncomputable def z85 (t8 : Nat) (b0 : List Nat) (q0j : Nat) (t10 : Int) : Bool := (z3n t8 b0 q0j big t10).isSome
noncomputable def z00 (t8 : Nat) (b0 : List Nat) (q0j : Nat) (t10 : Int) : Int := ((z3n t8 b0 q0j big t10).getD default).1
noncomputable def z8u (t8 : Nat) (b0 : List Nat) (q0j : Nat) (t10 : Int) : Bool := ((z3n t8 b0 q0j big t10).getD default).2
theorem za1 {t8 : Nat} {b0 : List Nat} {q0j : Nat} {t10 : Int} {m : Nat} {r : Int × Bool} (hm : m = big) (h : z3n t8 b0 q0j m t10 = some r) : z85 t8 b0 q0j t10 = true ∧ z00 t8 b0 q0j t10 = r.1 ∧ z8u t8 b0 q0j t10 = r.2 := by
  subst hm
  unfold z85 z00 z8u
  rw [h]
  exact ⟨rfl, rfl, rfl⟩
noncomputable def z2k {R : Type} (sn : Nat) (t7 : Int) (b0 : List Nat) (b4 : Nat) (t8 : Int) (kn_ : Int → Option R) (k0_ : Int → Option R) (k1_ : Int → Bool → Option R) : Option R := (br (ltI t8 t7) (grd (okIx t8 sn) (br (fcmp BinOp.gtr FloatKind.f32 (gF b0 (ixO 0 t8 1)) b4) (k0_ t8) (kn_ (addI IntKind.i64 t8 1)))) (k1_ t8 (ltI t8 t7)))
theorem z6u {R R' : Type} (o : Option R → Option R') (h0 : o none = none) (sn : Nat) (t7 : Int) (b0 : List Nat) (b4 : Nat) (t8 : Int) (kn_ : Int → Option R) (k0_ : Int → Option R) (k1_ : Int → Bool → Option R) : z2k sn t7 b0 b4 t8 (fun t8' => o (kn_ t8')) (fun c0_ => o (k0_ c0_)) (fun c0_ c1_ => o (k1_ c0_ c1_)) = o (z2k sn t7 b0 b4 t8 kn_ k0_ k1_) := by
  unfold z2k
  repeat (first | refine grd_out h0 ?_ | refine br_out ?_ ?_ | rfl | exact h0.symm)
noncomputable def z0l (sn : Nat) (t7 : Int) (b0 : List Nat) (b4 : Nat) : Nat → Int → Option ((Int) ⊕ (Int × Bool))
  | 0, _ => none
  | n + 1, t8 => z2k sn t7 b0 b4  t8  (fun t8' => z0l sn t7 b0 b4 n t8') (fun c0_ => some (Sum.inl c0_)) (fun c0_ c1_ => some (Sum.inr (c0_, c1_)))
theorem z4k (sn : Nat) (t7 : Int) (b0 : List Nat) (b4 : Nat) (n : Nat) (t8 : Int) : z0l sn t7 b0 b4 (n + 1) t8 = z2k sn t7 b0 b4  t8  (fun t8' => z0l sn t7 b0 b4 n t8') (fun c0_ => some (Sum.inl c0_)) (fun c0_ c1_ => some (Sum.inr (c0_, c1_))) := rfl
noncomputable def z2y (sn : Nat) (t7 : Int) (b0 : List Nat) (b4 : Nat) (t8 : Int) : Bool := (z0l sn t7 b0 b4 big t8).isSome
noncomputable def z2x (sn : Nat) (t7 : Int) (b0 : List Nat) (b4 : Nat) (t8 : Int) : Bool := oL (z0l sn t7 b0 b4 big t8)
noncomputable def z1s (sn : Nat) (t7 : Int) (b0 : List Nat) (b4 : Nat) (t8 : Int) : Int := ((tL (z0l sn t7 b0 b4 big t8)).getD default)
noncomputable def z41 (sn : Nat) (t7 : Int) (b0 : List Nat) (b4 : Nat) (t8 : Int) : Int := ((tR (z0l sn t7 b0 b4 big t8)).getD default).1
noncomputable def z42 (sn : Nat) (t7 : Int) (b0 : List Nat) (b4 : Nat) (t8 : Int) : Bool := ((tR (z0l sn t7 b0 b4 big t8)).getD default).2
theorem z79 {sn : Nat} {t7 : Int} {b0 : List Nat} {b4 : Nat} {t8 : Int} {m : Nat} {r : Int} (hm : m = big) (h : z0l sn t7 b0 b4 m t8 = some (Sum.inl r)) : z2y sn t7 b0 b4 t8 = true ∧ z2x sn t7 b0 b4 t8 = true ∧ z1s sn t7 b0 b4 t8 = r := by
  subst hm
  unfold z2y z2x z1s
  rw [h]
  exact ⟨rfl, rfl, rfl⟩
theorem z78 {sn : Nat} {t7 : Int} {b0 : List Nat} {b4 : Nat} {t8 : Int} {m : Nat} {r : Int × Bool} (hm : m = big) (h : z0l sn t7 b0 b4 m t8 = some (Sum.inr r)) : z2y sn t7 b0 b4 t8 = true ∧ z2x sn t7 b0 b4 t8 = false ∧ z41 sn t7 b0 b4 t8 = r.1 ∧ z42 sn t7 b0 b4 t8 = r.2 := by
  subst hm
  unfold z2y z2x z41 z42
  rw [h]
  exact ⟨rfl, rfl, rfl, rfl⟩
noncomputable def z5x {R : Type} (q00 : Nat) (q01 : List Nat) (q05 : Nat) (q07 : List Nat) (q06 : Nat) (q08 : List Nat) (x1 : Nat) (k_ : Int → Int → Nat → Nat → Option R) : Option R := (grd (z9l x1) (grd (z85 (z01 x1) q01 q00 (subI IntKind.i64 (Int.ofNat q00) 1)) (br (ltI (z00 (z01 x1) q01 q00 (subI IntKind.i64 (Int.ofNat q00) 1)) 0) (grd (okIx (subI IntKind.i64 (Int.ofNat q00) 1) q00) (grd (okIx 0 q00) (br (eqI 0 0) (br (fcmp BinOp.lss FloatKind.f32 (z01 x1) (gF q01 (ixO 0 0 1))) (br (fcmp BinOp.eql FloatKind.f32 (fop BinOp.sub FloatKind.f32 (gF q01 (ixO 0 0 1)) (fop BinOp.sub FloatKind.f32 (gF q01 (ixO 0 (subI IntKind.i64 (Int.ofNat q00) 1) 1)) 1065353216)) 0) (k_ (subI IntKind.i64 (Int.ofNat q00) 1) 0 0 (fop BinOp.sub FloatKind.f32 (gF q01 (ixO 0 0 1)) (fop BinOp.sub FloatKind.f32 (gF q01 (ixO 0 (subI IntKind.i64 (Int.ofNat q00) 1) 1)) 1065353216))) (k_ (subI IntKind.i64 (Int.ofNat q00) 1) 0 (fop BinOp.quo FloatKind.f32 (fop BinOp.sub FloatKind.f32 (z01 x1) (fop BinOp.sub FloatKind.f32 (gF q01 (ixO 0 (subI IntKind.i64 (Int.ofNat q00) 1) 1)) 1065353216)) (fop BinOp.sub FloatKind.f32 (gF q01 (ixO 0 0 1)) (fop BinOp.sub FloatKind.f32 (gF q01 (ixO 0 (subI IntKind.i64 (Int.ofNat q00) 1) 1)) 1065353216))) (fop BinOp.sub FloatKind.f32 (gF q01 (ixO 0 0 1)) (fop BinOp.sub FloatKind.f32 (gF q01 (ixO 0 (subI IntKind.i64 (Int.ofNat q00) 1) 1)) 1065353216)))) (br (eqI 0 0) (br (fcmp BinOp.eql FloatKind.f32 (fop BinOp.sub FloatKind.f32 (fop BinOp.add FloatKind.f32 (gF q01 (ixO 0 0 1)) 1065353216) (gF q01 (ixO 0 (subI IntKind.i64 (Int.ofNat q00) 1) 1))) 0) (k_ (subI IntKind.i64 (Int.ofNat q00) 1) 0 0 (fop BinOp.sub FloatKind.f32 (fop BinOp.add FloatKind.f32 (gF q01 (ixO 0 0 1)) 1065353216) (gF q01 (ixO 0 (subI IntKind.i64 (Int.ofNat q00) 1) 1)))) (k_ (subI IntKind.i64 (Int.ofNat q00) 1) 0 (fop BinOp.quo FloatKind.f32 (fop BinOp.sub FloatKind.f32 (z01 x1) (gF q01 (ixO 0 (subI IntKind.i64 (Int.ofNat q00) 1) 1))) (fop BinOp.sub FloatKind.f32 (fop BinOp.add FloatKind.f32 (gF q01 (ixO 0 0 1)) 1065353216) (gF q01 (ixO 0 (subI IntKind.i64 (Int.ofNat q00) 1) 1)))) (fop BinOp.sub FloatKind.f32 (fop BinOp.add FloatKind.f32 (gF q01 (ixO 0 0 1)) 1065353216) (gF q01 (ixO 0 (subI IntKind.i64 (Int.ofNat q00) 1) 1))))) (br (fcmp BinOp.eql FloatKind.f32 (fop BinOp.sub FloatKind.f32 (gF q01 (ixO 0 0 1)) (gF q01 (ixO 0 (subI IntKind.i64 (Int.ofNat q00) 1) 1))) 0) (k_ (subI IntKind.i64 (Int.ofNat q00) 1) 0 0 (fop BinOp.sub FloatKind.f32 (gF q01 (ixO 0 0 1)) (gF q01 (ixO 0 (subI IntKind.i64 (Int.ofNat q00) 1) 1)))) (k_ (subI IntKind.i64 (Int.ofNat q00) 1) 0 (fop BinOp.quo FloatKind.f32 (fop BinOp.sub FloatKind.f32 (z01 x1) (gF q01 (ixO 0 (subI IntKind.i64 (Int.ofNat q00) 1) 1))) (fop BinOp.sub FloatKind.f32 (gF q01 (ixO 0 0 1)) (gF q01 (ixO 0 (subI IntKind.i64 (Int.ofNat q00) 1) 1)))) (fop BinOp.sub FloatKind.f32 (gF q01 (ixO 0 0 1)) (gF q01 (ixO 0 (subI IntKind.i64 (Int.ofNat q00) 1) 1))))))) (br (eqI 0 0) (br (fcmp BinOp.eql FloatKind.f32 (fop BinOp.sub FloatKind.f32 (fop BinOp.add FloatKind.f32 (gF q01 (ixO 0 0 1)) 1065353216) (gF q01 (ixO 0 (subI IntKind.i64 (Int.ofNat q00) 1) 1))) 0) (k_ (subI IntKind.i64 (Int.ofNat q00) 1) 0 0 (fop BinOp.sub FloatKind.f32 (fop BinOp.add FloatKind.f32 (gF q01 (ixO 0 0 1)) 1065353216) (gF q01 (ixO 0 (subI IntKind.i64 (Int.ofNat q00) 1) 1)))) (k_ (subI IntKind.i64 (Int.ofNat q00) 1) 0 (fop BinOp.quo FloatKind.f32 (fop BinOp.sub FloatKind.f32 (z01 x1) (gF q01 (ixO 0 (subI IntKind.i64 (Int.ofNat q00) 1) 1))) (fop BinOp.sub FloatKind.f32 (fop BinOp.add FloatKind.f32 (gF q01 (ixO 0 0 1)) 1065353216) (gF q01 (ixO 0 (subI IntKind.i64 (Int.ofNat q00) 1) 1)))) (fop BinOp.sub FloatKind.f32 (fop BinOp.add FloatKind.f32 (gF q01 (ixO 0 0 1)) 1065353216) (gF q01 (ixO 0 (subI IntKind.i64 (Int.ofNat q00) 1) 1))))) (br (fcmp BinOp.eql FloatKind.f32 (fop BinOp.sub FloatKind.f32 (gF q01 (ixO 0 0 1)) (gF q01 (ixO 0 (subI IntKind.i64 (Int.ofNat q00) 1) 1))) 0) (k_ (subI IntKind.i64 (Int.ofNat q00) 1) 0 0 (fop BinOp.sub FloatKind.f32 (gF q01 (ixO 0 0 1)) (gF q01 (ixO 0 (subI IntKind.i64 (Int.ofNat q00) 1) 1)))) (k_ (subI IntKind.i64 (Int.ofNat q00) 1) 0 (fop BinOp.quo FloatKind.f32 (fop BinOp.sub FloatKind.f32 (z01 x1) (gF q01 (ixO 0 (subI IntKind.i64 (Int.ofNat q00) 1) 1))) (fop BinOp.sub FloatKind.f32 (gF q01 (ixO 0 0 1)) (gF q01 (ixO 0 (subI IntKind.i64 (Int.ofNat q00) 1) 1)))) (fop BinOp.sub FloatKind.f32 (gF q01 (ixO 0 0 1)) (gF q01 (ixO 0 (subI IntKind.i64 (Int.ofNat q00) 1) 1))))))))) (br (eqI (addI IntKind.i64 (z00 (z01 x1) q01 q00 (subI IntKind.i64 (Int.ofNat q00) 1)) 1) (Int.ofNat q00)) (grd (okIx (z00 (z01 x1) q01 q00 (subI IntKind.i64 (Int.ofNat q00) 1)) q00) (grd (okIx 0 q00) (br (eqI 0 0) (br (fcmp BinOp.lss FloatKind.f32 (z01 x1) (gF q01 (ixO 0 0 1))) (br (fcmp BinOp.eql FloatKind.f32 (fop BinOp.sub FloatKind.f32 (gF q01 (ixO 0 0 1)) (fop BinOp.sub FloatKind.f32 (gF q01 (ixO 0 (z00 (z01 x1) q01 q00 (subI IntKind.i64 (Int.ofNat q00) 1)) 1)) 1065353216)) 0) (k_ (z00 (z01 x1) q01 q00 (subI IntKind.i64 (Int.ofNat q00) 1)) 0 0 (fop BinOp.sub FloatKind.f32 (gF q01 (ixO 0 0 1)) (fop BinOp.sub FloatKind.f32 (gF q01 (ixO 0 (z00 (z01 x1) q01 q00 (subI IntKind.i64 (Int.ofNat q00) 1)) 1)) 1065353216))) (k_ (z00 (z01 x1) q01 q00 (subI IntKind.i64 (Int.ofNat q00) 1)) 0 (fop BinOp.quo FloatKind.f32 (fop BinOp.sub FloatKind.f32 (z01 x1) (fop BinOp.sub FloatKind.f32 (gF q01 (ixO 0 (z00 (z01 x1) q01 q00 (subI IntKind.i64 (Int.ofNat q00) 1)) 1)) 1065353216)) (fop BinOp.sub FloatKind.f32 (gF q01 (ixO 0 0 1)) (fop BinOp.sub FloatKind.f32 (gF q01 (ixO 0 (z00 (z01 x1) q01 q00 (subI IntKind.i64 (Int.ofNat q00) 1)) 1)) 1065353216))) (fop BinOp.sub FloatKind.f32 (gF q01 (ixO 0 0 1)) (fop BinOp.sub FloatKind.f32 (gF q01 (ixO 0 (z00 (z01 x1) q01 q00 (subI IntKind.i64 (Int.ofNat q00) 1)) 1)) 1065353216)))) (br (eqI 0 0) (br (fcmp BinOp.eql FloatKind.f32 (fop BinOp.sub FloatKind.f32 (fop BinOp.add FloatKind.f32 (gF q01 (ixO 0 0 1)) 1065353216) (gF q01 (ixO 0 (z00 (z01 x1) q01 q00 (subI IntKind.i64 (Int.ofNat q00) 1)) 1))) 0) (k_ (z00 (z01 x1) q01 q00 (subI IntKind.i64 (Int.ofNat q00) 1)) 0 0 (fop BinOp.sub FloatKind.f32 (fop BinOp.add FloatKind.f32 (gF q01 (ixO 0 0 1)) 1065353216) (gF q01 (ixO 0 (z00 (z01 x1) q01 q00 (subI IntKind.i64 (Int.ofNat q00) 1)) 1)))) (k_ (z00 (z01 x1) q01 q00 (subI IntKind.i64 (Int.ofNat q00) 1)) 0 (fop BinOp.quo FloatKind.f32 (fop BinOp.sub FloatKind.f32 (z01 x1) (gF q01 (ixO 0 (z00 (z01 x1) q01 q00 (subI IntKind.i64 (Int.ofNat q00) 1)) 1))) (fop BinOp.sub FloatKind.f32 (fop BinOp.add FloatKind.f32 (gF q01 (ixO 0 0 1)) 1065353216) (gF q01 (ixO 0 (z00 (z01 x1) q01 q00 (subI IntKind.i64 (Int.ofNat q00) 1)) 1)))) (fop BinOp.sub FloatKind.f32 (fop BinOp.add FloatKind.f32 (gF q01 (ixO 0 0 1)) 1065353216) (gF q01 (ixO 0 (z00 (z01 x1) q01 q00 (subI IntKind.i64 (Int.ofNat q00) 1)) 1))))) (br (fcmp BinOp.eql FloatKind.f32 (fop BinOp.sub FloatKind.f32 (gF q01 (ixO 0 0 1)) (gF q01 (ixO 0 (z00 (z01 x1) q01 q00 (subI IntKind.i64 (Int.ofNat q00) 1)) 1))) 0) (k_ (z00 (z01 x1) q01 q00 (subI IntKind.i64 (Int.ofNat q00) 1)) 0 0 (fop BinOp.sub FloatKind.f32 (gF q01 (ixO 0 0 1)) (gF q01 (ixO 0 (z00 (z01 x1) q01 q00 (subI IntKind.i64 (Int.ofNat q00) 1)) 1)))) (k_ (z00 (z01 x1) q01 q00 (subI IntKind.i64 (Int.ofNat q00) 1)) 0 (fop BinOp.quo FloatKind.f32 (fop BinOp.sub FloatKind.f32 (z01 x1) (gF q01 (ixO 0 (z00 (z01 x1) q01 q00 (subI IntKind.i64 (Int.ofNat q00) 1)) 1))) (fop BinOp.sub FloatKind.f32 (gF q01 (ixO 0 0 1)) (gF q01 (ixO 0 (z00 (z01 x1) q01 q00 (subI IntKind.i64 (Int.ofNat q00) 1)) 1)))) (fop BinOp.sub FloatKind.f32 (gF q01 (ixO 0 0 1)) (gF q01 (ixO 0 (z00 (z01 x1) q01 q00 (subI IntKind.i64 (Int.ofNat q00) 1)) 1))))))) (br (eqI 0 0) (br (fcmp BinOp.eql FloatKind.f32 (fop BinOp.sub FloatKind.f32 (fop BinOp.add FloatKind.f32 (gF q01 (ixO 0 0 1)) 1065353216) (gF q01 (ixO 0 (z00 (z01 x1) q01 q00 (subI IntKind.i64 (Int.ofNat q00) 1)) 1))) 0) (k_ (z00 (z01 x1) q01 q00 (subI IntKind.i64 (Int.ofNat q00) 1)) 0 0 (fop BinOp.sub FloatKind.f32 (fop BinOp.add FloatKind.f32 (gF q01 (ixO 0 0 1)) 1065353216) (gF q01 (ixO 0 (z00 (z01 x1) q01 q00 (subI IntKind.i64 (Int.ofNat q00) 1)) 1)))) (k_ (z00 (z01 x1) q01 q00 (subI IntKind.i64 (Int.ofNat q00) 1)) 0 (fop BinOp.quo FloatKind.f32 (fop BinOp.sub FloatKind.f32 (z01 x1) (gF q01 (ixO 0 (z00 (z01 x1) q01 q00 (subI IntKind.i64 (Int.ofNat q00) 1)) 1))) (fop BinOp.sub FloatKind.f32 (fop BinOp.add FloatKind.f32 (gF q01 (ixO 0 0 1)) 1065353216) (gF q01 (ixO 0 (z00 (z01 x1) q01 q00 (subI IntKind.i64 (Int.ofNat q00) 1)) 1)))) (fop BinOp.sub FloatKind.f32 (fop BinOp.add FloatKind.f32 (gF q01 (ixO 0 0 1)) 1065353216) (gF q01 (ixO 0 (z00 (z01 x1) q01 q00 (subI IntKind.i64 (Int.ofNat q00) 1)) 1))))) (br (fcmp BinOp.eql FloatKind.f32 (fop BinOp.sub FloatKind.f32 (gF q01 (ixO 0 0 1)) (gF q01 (ixO 0 (z00 (z01 x1) q01 q00 (subI IntKind.i64 (Int.ofNat q00) 1)) 1))) 0) (k_ (z00 (z01 x1) q01 q00 (subI IntKind.i64 (Int.ofNat q00) 1)) 0 0 (fop BinOp.sub FloatKind.f32 (gF q01 (ixO 0 0 1)) (gF q01 (ixO 0 (z00 (z01 x1) q01 q00 (subI IntKind.i64 (Int.ofNat q00) 1)) 1)))) (k_ (z00 (z01 x1) q01 q00 (subI IntKind.i64 (Int.ofNat q00) 1)) 0 (fop BinOp.quo FloatKind.f32 (fop BinOp.sub FloatKind.f32 (z01 x1) (gF q01 (ixO 0 (z00 (z01 x1) q01 q00 (subI IntKind.i64 (Int.ofNat q00) 1)) 1))) (fop BinOp.sub FloatKind.f32 (gF q01 (ixO 0 0 1)) (gF q01 (ixO 0 (z00 (z01 x1) q01 q00 (subI IntKind.i64 (Int.ofNat q00) 1)) 1)))) (fop BinOp.sub FloatKind.f32 (gF q01 (ixO 0 0 1)) (gF q01 (ixO 0 (z00 (z01 x1) q01 q00 (subI IntKind.i64 (Int.ofNat q00) 1)) 1))))))))) (grd (okIx (z00 (z01 x1) q01 q00 (subI IntKind.i64 (Int.ofNat q00) 1)) q00) (grd (okIx (addI IntKind.i64 (z00 (z01 x1) q01 q00 (subI IntKind.i64 (Int.ofNat q00) 1)) 1) q00) (br (eqI (addI IntKind.i64 (z00 (z01 x1) q01 q00 (subI IntKind.i64 (Int.ofNat q00) 1)) 1) 0) (br (fcmp BinOp.lss FloatKind.f32 (z01 x1) (gF q01 (ixO 0 (addI IntKind.i64 (z00 (z01 x1) q01 q00 (subI IntKind.i64 (Int.ofNat q00) 1)) 1) 1))) (br (fcmp BinOp.eql FloatKind.f32 (fop BinOp.sub FloatKind.f32 (gF q01 (ixO 0 (addI IntKind.i64 (z00 (z01 x1) q01 q00 (subI IntKind.i64 (Int.ofNat q00) 1)) 1) 1)) (fop BinOp.sub FloatKind.f32 (gF q01 (ixO 0 (z00 (z01 x1) q01 q00 (subI IntKind.i64 (Int.ofNat q00) 1)) 1)) 1065353216)) 0) (k_ (z00 (z01 x1) q01 q00 (subI IntKind.i64 (Int.ofNat q00) 1)) (addI IntKind.i64 (z00 (z01 x1) q01 q00 (subI IntKind.i64 (Int.ofNat q00) 1)) 1) 0 (fop BinOp.sub FloatKind.f32 (gF q01 (ixO 0 (addI IntKind.i64 (z00 (z01 x1) q01 q00 (subI IntKind.i64 (Int.ofNat q00) 1)) 1) 1)) (fop BinOp.sub FloatKind.f32 (gF q01 (ixO 0 (z00 (z01 x1) q01 q00 (subI IntKind.i64 (Int.ofNat q00) 1)) 1)) 1065353216))) (k_ (z00 (z01 x1) q01 q00 (subI IntKind.i64 (Int.ofNat q00) 1)) (addI IntKind.i64 (z00 (z01 x1) q01 q00 (subI IntKind.i64 (Int.ofNat q00) 1)) 1) (fop BinOp.quo FloatKind.f32 (fop BinOp.sub FloatKind.f32 (z01 x1) (fop BinOp.sub FloatKind.f32 (gF q01 (ixO 0 (z00 (z01 x1) q01 q00 (subI IntKind.i64 (Int.ofNat q00) 1)) 1)) 1065353216)) (fop BinOp.sub FloatKind.f32 (gF q01 (ixO 0 (addI IntKind.i64 (z00 (z01 x1) q01 q00 (subI IntKind.i64 (Int.ofNat q00) 1)) 1) 1)) (fop BinOp.sub FloatKind.f32 (gF q01 (ixO 0 (z00 (z01 x1) q01 q00 (subI IntKind.i64 (Int.ofNat q00) 1)) 1)) 1065353216))) (fop BinOp.sub FloatKind.f32 (gF q01 (ixO 0 (addI IntKind.i64 (z00 (z01 x1) q01 q00 (subI IntKind.i64 (Int.ofNat q00) 1)) 1) 1)) (fop BinOp.sub FloatKind.f32 (gF q01 (ixO 0 (z00 (z01 x1) q01 q00 (subI IntKind.i64 (Int.ofNat q00) 1)) 1)) 1065353216)))) (br (eqI (addI IntKind.i64 (z00 (z01 x1) q01 q00 (subI IntKind.i64 (Int.ofNat q00) 1)) 1) 0) (br (fcmp BinOp.eql FloatKind.f32 (fop BinOp.sub FloatKind.f32 (fop BinOp.add FloatKind.f32 (gF q01 (ixO 0 (addI IntKind.i64 (z00 (z01 x1) q01 q00 (subI IntKind.i64 (Int.ofNat q00) 1)) 1) 1)) 1065353216) (gF q01 (ixO 0 (z00 (z01 x1) q01 q00 (subI IntKind.i64 (Int.ofNat q00) 1)) 1))) 0) (k_ (z00 (z01 x1) q01 q00 (subI IntKind.i64 (Int.ofNat q00) 1)) (addI IntKind.i64 (z00 (z01 x1) q01 q00 (subI IntKind.i64 (Int.ofNat q00) 1)) 1) 0 (fop BinOp.sub FloatKind.f32 (fop BinOp.add FloatKind.f32 (gF q01 (ixO 0 (addI IntKind.i64 (z00 (z01 x1) q01 q00 (subI IntKind.i64 (Int.ofNat q00) 1)) 1) 1)) 1065353216) (gF q01 (ixO 0 (z00 (z01 x1) q01 q00 (subI IntKind.i64 (Int.ofNat q00) 1)) 1)))) (k_ (z00 (z01 x1) q01 q00 (subI IntKind.i64 (Int.ofNat q00) 1)) (addI IntKind.i64 (z00 (z01 x1) q01 q00 (subI IntKind.i64 (Int.ofNat q00) 1)) 1) (fop BinOp.quo FloatKind.f32 (fop BinOp.sub FloatKind.f32 (z01 x1) (gF q01 (ixO 0 (z00 (z01 x1) q01 q00 (subI IntKind.i64 (Int.ofNat q00) 1)) 1))) (fop BinOp.sub FloatKind.f32 (fop BinOp.add FloatKind.f32 (gF q01 (ixO 0 (addI IntKind.i64 (z00 (z01 x1) q01 q00 (subI IntKind.i64 (Int.ofNat q00) 1)) 1) 1)) 1065353216) (gF q01 (ixO 0 (z00 (z01 x1) q01 q00 (subI IntKind.i64 (Int.ofNat q00) 1)) 1)))) (fop BinOp.sub FloatKind.f32 (fop BinOp.add FloatKind.f32 (gF q01 (ixO 0 (addI IntKind.i64 (z00 (z01 x1) q01 q00 (subI IntKind.i64 (Int.ofNat q00) 1)) 1) 1)) 1065353216) (gF q01 (ixO 0 (z00 (z01 x1) q01 q00 (subI IntKind.i64 (Int.ofNat q00) 1)) 1))))) (br (fcmp BinOp.eql FloatKind.f32 (fop BinOp.sub FloatKind.f32 (gF q01 (ixO 0 (addI IntKind.i64 (z00 (z01 x1) q01 q00 (subI IntKind.i64 (Int.ofNat q00) 1)) 1) 1)) (gF q01 (ixO 0 (z00 (z01 x1) q01 q00 (subI IntKind.i64 (Int.ofNat q00) 1)) 1))) 0) (k_ (z00 (z01 x1) q01 q00 (subI IntKind.i64 (Int.ofNat q00) 1)) (addI IntKind.i64 (z00 (z01 x1) q01 q00 (subI IntKind.i64 (Int.ofNat q00) 1)) 1) 0 (fop BinOp.sub FloatKind.f32 (gF q01 (ixO 0 (addI IntKind.i64 (z00 (z01 x1) q01 q00 (subI IntKind.i64 (Int.ofNat q00) 1)) 1) 1)) (gF q01 (ixO 0 (z00 (z01 x1) q01 q00 (subI IntKind.i64 (Int.ofNat q00) 1)) 1)))) (k_ (z00 (z01 x1) q01 q00 (subI IntKind.i64 (Int.ofNat q00) 1)) (addI IntKind.i64 (z00 (z01 x1) q01 q00 (subI IntKind.i64 (Int.ofNat q00) 1)) 1) (fop BinOp.quo FloatKind.f32 (fop BinOp.sub FloatKind.f32 (z01 x1) (gF q01 (ixO 0 (z00 (z01 x1) q01 q00 (subI IntKind.i64 (Int.ofNat q00) 1)) 1))) (fop BinOp.sub FloatKind.f32 (gF q01 (ixO 0 (addI IntKind.i64 (z00 (z01 x1) q01 q00 (subI IntKind.i64 (Int.ofNat q00) 1)) 1) 1)) (gF q01 (ixO 0 (z00 (z01 x1) q01 q00 (subI IntKind.i64 (Int.ofNat q00) 1)) 1)))) (fop BinOp.sub FloatKind.f32 (gF q01 (ixO 0 (addI IntKind.i64 (z00 (z01 x1) q01 q00 (subI IntKind.i64 (Int.ofNat q00) 1)) 1) 1)) (gF q01 (ixO 0 (z00 (z01 x1) q01 q00 (subI IntKind.i64 (Int.ofNat q00) 1)) 1))))))) (br (eqI (addI IntKind.i64 (z00 (z01 x1) q01 q00 (subI IntKind.i64 (Int.ofNat q00) 1)) 1) 0) (br (fcmp BinOp.eql FloatKind.f32 (fop BinOp.sub FloatKind.f32 (fop BinOp.add FloatKind.f32 (gF q01 (ixO 0 (addI IntKind.i64 (z00 (z01 x1) q01 q00 (subI IntKind.i64 (Int.ofNat q00) 1)) 1) 1)) 1065353216) (gF q01 (ixO 0 (z00 (z01 x1) q01 q00 (subI IntKind.i64 (Int.ofNat q00) 1)) 1))) 0) (k_ (z00 (z01 x1) q01 q00 (subI IntKind.i64 (Int.ofNat q00) 1)) (addI IntKind.i64 (z00 (z01 x1) q01 q00 (subI IntKind.i64 (Int.ofNat q00) 1)) 1) 0 (fop BinOp.sub FloatKind.f32 (fop BinOp.add FloatKind.f32 (gF q01 (ixO 0 (addI IntKind.i64 (z00 (z01 x1) q01 q00 (subI IntKind.i64 (Int.ofNat q00) 1)) 1) 1)) 1065353216) (gF q01 (ixO 0 (z00 (z01 x1) q01 q00 (subI IntKind.i64 (Int.ofNat q00) 1)) 1)))) (k_ (z00 (z01 x1) q01 q00 (subI IntKind.i64 (Int.ofNat q00) 1)) (addI IntKind.i64 (z00 (z01 x1) q01 q00 (subI IntKind.i64 (Int.ofNat q00) 1)) 1) (fop BinOp.quo FloatKind.f32 (fop BinOp.sub FloatKind.f32 (z01 x1) (gF q01 (ixO 0 (z00 (z01 x1) q01 q00 (subI IntKind.i64 (Int.ofNat q00) 1)) 1))) (fop BinOp.sub FloatKind.f32 (fop BinOp.add FloatKind.f32 (gF q01 (ixO 0 (addI IntKind.i64 (z00 (z01 x1) q01 q00 (subI IntKind.i64 (Int.ofNat q00) 1)) 1) 1)) 1065353216) (gF q01 (ixO 0 (z00 (z01 x1) q01 q00 (subI IntKind.i64 (Int.ofNat q00) 1)) 1)))) (fop BinOp.sub FloatKind.f32 (fop BinOp.add FloatKind.f32 (gF q01 (ixO 0 (addI IntKind.i64 (z00 (z01 x1) q01 q00 (subI IntKind.i64 (Int.ofNat q00) 1)) 1) 1)) 1065353216) (gF q01 (ixO 0 (z00 (z01 x1) q01 q00 (subI IntKind.i64 (Int.ofNat q00) 1)) 1))))) (br (fcmp BinOp.eql FloatKind.f32 (fop BinOp.sub FloatKind.f32 (gF q01 (ixO 0 (addI IntKind.i64 (z00 (z01 x1) q01 q00 (subI IntKind.i64 (Int.ofNat q00) 1)) 1) 1)) (gF q01 (ixO 0 (z00 (z01 x1) q01 q00 (subI IntKind.i64 (Int.ofNat q00) 1)) 1))) 0) (k_ (z00 (z01 x1) q01 q00 (subI IntKind.i64 (Int.ofNat q00) 1)) (addI IntKind.i64 (z00 (z01 x1) q01 q00 (subI IntKind.i64 (Int.ofNat q00) 1)) 1) 0 (fop BinOp.sub FloatKind.f32 (gF q01 (ixO 0 (addI IntKind.i64 (z00 (z01 x1) q01 q00 (subI IntKind.i64 (Int.ofNat q00) 1)) 1) 1)) (gF q01 (ixO 0 (z00 (z01 x1) q01 q00 (subI IntKind.i64 (Int.ofNat q00) 1)) 1)))) (k_ (z00 (z01 x1) q01 q00 (subI IntKind.i64 (Int.ofNat q00) 1)) (addI IntKind.i64 (z00 (z01 x1) q01 q00 (subI IntKind.i64 (Int.ofNat q00) 1)) 1) (fop BinOp.quo FloatKind.f32 (fop BinOp.sub FloatKind.f32 (z01 x1) (gF q01 (ixO 0 (z00 (z01 x1) q01 q00 (subI IntKind.i64 (Int.ofNat q00) 1)) 1))) (fop BinOp.sub FloatKind.f32 (gF q01 (ixO 0 (addI IntKind.i64 (z00 (z01 x1) q01 q00 (subI IntKind.i64 (Int.ofNat q00) 1)) 1) 1)) (gF q01 (ixO 0 (z00 (z01 x1) q01 q00 (subI IntKind.i64 (Int.ofNat q00) 1)) 1)))) (fop BinOp.sub FloatKind.f32 (gF q01 (ixO 0 (addI IntKind.i64 (z00 (z01 x1) q01 q00 (subI IntKind.i64 (Int.ofNat q00) 1)) 1) 1)) (gF q01 (ixO 0 (z00 (z01 x1) q01 q00 (subI IntKind.i64 (Int.ofNat q00) 1)) 1)))))))))))))
noncomputable def z4i (q00 : Nat) (q01 : List Nat) (q05 : Nat) (q07 : List Nat) (q06 : Nat) (q08 : List Nat) (x1 : Nat) : Option (Int × Int × Nat × Nat) := z5x q00 q01 q05 q07 q06 q08 x1 (fun c0_ c1_ c2_ c3_ => some (c0_, c1_, c2_, c3_))
theorem zca {R R' : Type} (o : Option R → Option R') (h0 : o none = none) (q00 : Nat) (q01 : List Nat) (q05 : Nat) (q07 : List Nat) (q06 : Nat) (q08 : List Nat) (x1 : Nat) (k_ : Int → Int → Nat → Nat → Option R) : z5x q00 q01 q05 q07 q06 q08 x1 (fun c0_ c1_ c2_ c3_ => o (k_ c0_ c1_ c2_ c3_)) = o (z5x q00 q01 q05 q07 q06 q08 x1 k_) := by
  unfold z5x
  repeat (first | refine grd_out h0 ?_ | refine br_out ?_ ?_ | rfl | exact h0.symm)
noncomputable def z9o (q00 : Nat) (q01 : List Nat) (q05 : Nat) (q07 : List Nat) (q06 : Nat) (q08 : List Nat) (x1 : Nat) : Bool := (z4i q00 q01 q05 q07 q06 q08 x1).isSome
noncomputable def z5f (q00 : Nat) (q01 : List Nat) (q05 : Nat) (q07 : List Nat) (q06 : Nat) (q08 : List Nat) (x1 : Nat) : Int := ((z4i q00 q01 q05 q07 q06 q08 x1).getD default).1
noncomputable def z5g (q00 : Nat) (q01 : List Nat) (q05 : Nat) (q07 : List Nat) (q06 : Nat) (q08 : List Nat) (x1 : Nat) : Int := ((z4i q00 q01 q05 q07 q06 q08 x1).getD default).2.1
noncomputable def z9z (q00 : Nat) (q01 : List Nat) (q05 : Nat) (q07 : List Nat) (q06 : Nat) (q08 : List Nat) (x1 : Nat) : Nat := ((z4i q00 q01 q05 q07 q06 q08 x1).getD default).2.2.1
noncomputable def z6i (q00 : Nat) (q01 : List Nat) (q05 : Nat) (q07 : List Nat) (q06 : Nat) (q08 : List Nat) (x1 : Nat) : Nat := ((z4i q00 q01 q05 q07 q06 q08 x1).getD default).2.2.2
theorem zds {q00 : Nat} {q01 : List Nat} {q05 : Nat} {q07 : List Nat} {q06 : Nat} {q08 : List Nat} {x1 : Nat} {r : Int × Int × Nat × Nat} (h : z4i q00 q01 q05 q07 q06 q08 x1 = some r) : z9o q00 q01 q05 q07 q06 q08 x1 = true ∧ z5f q00 q01 q05 q07 q06 q08 x1 = r.1 ∧ z5g q00 q01 q05 q07 q06 q08 x1 = r.2.1 ∧ z9z q00 q01 q05 q07 q06 q08 x1 = r.2.2.1 ∧ z6i q00 q01 q05 q07 q06 q08 x1 = r.2.2.2 := by
  unfold z9o z5f z5g z9z z6i
  rw [h]
  exact ⟨rfl, rfl, rfl, rfl, rfl⟩
noncomputable def z4a {R : Type} (q00 : Nat) (q01 : List Nat) (q05 : Nat) (q07 : List Nat) (q06 : Nat) (q08 : List Nat) (x1 : Nat) (k_ : Int → Int → Nat → Nat → Nat → Option R) : Option R := (grd (z8s x1) (grd (z2y q00 (Int.ofNat q00) q01 (z2w x1) 0) (br (z2x q00 (Int.ofNat q00) q01 (z2w x1) 0) (br (eqI (z1s q00 (Int.ofNat q00) q01 (z2w x1) 0) 0) (grd (okIx (subI IntKind.i64 (Int.ofNat q00) 1) q00) (grd (okIx 0 q00) (k_ (subI IntKind.i64 (Int.ofNat q00) 1) 0 (fop BinOp.sub FloatKind.f32 (gF q01 (ixO 0 (subI IntKind.i64 (Int.ofNat q00) 1) 1)) 1065353216) (gF q01 (ixO 0 0 1)) (z2w x1)))) (br (ltI (z1s q00 (Int.ofNat q00) q01 (z2w x1) 0) 0) (grd (okIx (subI IntKind.i64 (Int.ofNat q00) 1) q00) (grd (okIx 0 q00) (k_ (subI IntKind.i64 (Int.ofNat q00) 1) 0 (gF q01 (ixO 0 (subI IntKind.i64 (Int.ofNat q00) 1) 1)) (fop BinOp.add FloatKind.f32 (gF q01 (ixO 0 0 1)) 1065353216) (z2w x1)))) (grd (okIx (subI IntKind.i64 (z1s q00 (Int.ofNat q00) q01 (z2w x1) 0) 1) q00) (grd (okIx (z1s q00 (Int.ofNat q00) q01 (z2w x1) 0) q00) (k_ (subI IntKind.i64 (z1s q00 (Int.ofNat q00) q01 (z2w x1) 0) 1) (z1s q00 (Int.ofNat q00) q01 (z2w x1) 0) (gF q01 (ixO 0 (subI IntKind.i64 (z1s q00 (Int.ofNat q00) q01 (z2w x1) 0) 1) 1)) (gF q01 (ixO 0 (z1s q00 (Int.ofNat q00) q01 (z2w x1) 0) 1)) (z2w x1)))))) (br (eqI (Int.negSucc 0) 0) (grd (okIx (subI IntKind.i64 (Int.ofNat q00) 1) q00) (grd (okIx 0 q00) (k_ (subI IntKind.i64 (Int.ofNat q00) 1) 0 (fop BinOp.sub FloatKind.f32 (gF q01 (ixO 0 (subI IntKind.i64 (Int.ofNat q00) 1) 1)) 1065353216) (gF q01 (ixO 0 0 1)) (z2w x1)))) (br (ltI (Int.negSucc 0) 0) (grd (okIx (subI IntKind.i64 (Int.ofNat q00) 1) q00) (grd (okIx 0 q00) (k_ (subI IntKind.i64 (Int.ofNat q00) 1) 0 (gF q01 (ixO 0 (subI IntKind.i64 (Int.ofNat q00) 1) 1)) (fop BinOp.add FloatKind.f32 (gF q01 (ixO 0 0 1)) 1065353216) (z2w x1)))) (grd (okIx (subI IntKind.i64 (Int.negSucc 0) 1) q00) (grd (okIx (Int.negSucc 0) q00) (k_ (subI IntKind.i64 (Int.negSucc 0) 1) (Int.negSucc 0) (gF q01 (ixO 0 (subI IntKind.i64 (Int.negSucc 0) 1) 1)) (gF q01 (ixO 0 (Int.negSucc 0) 1)) (z2w x1)))))))))
noncomputable def z3h (q00 : Nat) (q01 : List Nat) (q05 : Nat) (q07 : List Nat) (q06 : Nat) (q08 : List Nat) (x1 : Nat) : Option (Int × Int × Nat × Nat × Nat) := z4a q00 q01 q05 q07 q06 q08 x1 (fun c0_ c1_ c2_ c3_ c4_ => some (c0_, c1_, c2_, c3_, c4_))
theorem za6 {R R' : Type} (o : Option R → Option R') (h0 : o none = none) (q00 : Nat) (q01 : List Nat) (q05 : Nat) (q07 : List Nat) (q06 : Nat) (q08 : List Nat) (x1 : Nat) (k_ : Int → Int → Nat → Nat → Nat → Option R) : z4a q00 q01 q05 q07 q06 q08 x1 (fun c0_ c1_ c2_ c3_ c4_ => o (k_ c0_ c1_ c2_ c3_ c4_)) = o (z4a q00 q01 q05 q07 q06 q08 x1 k_) := by
  unfold z4a
  repeat (first | refine grd_out h0 ?_ | refine br_out ?_ ?_ | rfl | exact h0.symm)
noncomputable def z6b (q00 : Nat) (q01 : List Nat) (q05 : Nat) (q07 : List Nat) (q06 : Nat) (q08 : List Nat) (x1 : Nat) : Bool := (z3h q00 q01 q05 q07 q06 q08 x1).isSome
noncomputable def z45 (q00 : Nat) (q01 : List Nat) (q05 : Nat) (q07 : List Nat) (q06 : Nat) (q08 : List Nat) (x1 : Nat) : Int := ((z3h q00 q01 q05 q07 q06 q08 x1).getD default).1
noncomputable def z46 (q00 : Nat) (q01 : List Nat) (q05 : Nat) (q07 : List Nat) (q06 : Nat) (q08 : List Nat) (x1 : Nat) : Int := ((z3h q00 q01 q05 q07 q06 q08 x1).getD default).2.1
noncomputable def z4g (q00 : Nat) (q01 : List Nat) (q05 : Nat) (q07 : List Nat) (q06 : Nat) (q08 : List Nat) (x1 : Nat) : Nat := ((z3h q00 q01 q05 q07 q06 q08 x1).getD default).2.2.1
noncomputable def z4h (q00 : Nat) (q01 : List Nat) (q05 : Nat) (q07 : List Nat) (q06 : Nat) (q08 : List Nat) (x1 : Nat) : Nat := ((z3h q00 q01 q05 q07 q06 q08 x1).getD default).2.2.2.1
noncomputable def z7f (q00 : Nat) (q01 : List Nat) (q05 : Nat) (q07 : List Nat) (q06 : Nat) (q08 : List Nat) (x1 : Nat) : Nat := ((z3h q00 q01 q05 q07 q06 q08 x1).getD default).2.2.2.2
theorem zas {q00 : Nat} {q01 : List Nat} {q05 : Nat} {q07 : List Nat} {q06 : Nat} {q08 : List Nat} {x1 : Nat} {r : Int × Int × Nat × Nat × Nat} (h : z3h q00 q01 q05 q07 q06 q08 x1 = some r) : z6b q00 q01 q05 q07 q06 q08 x1 = true ∧ z45 q00 q01 q05 q07 q06 q08 x1 = r.1 ∧ z46 q00 q01 q05 q07 q06 q08 x1 = r.2.1 ∧ z4g q00 q01 q05 q07 q06 q08 x1 = r.2.2.1 ∧ z4h q00 q01 q05 q07 q06 q08 x1 = r.2.2.2.1 ∧ z7f q00 q01 q05 q07 q06 q08 x1 = r.2.2.2.2 := by
  unfold z6b z45 z46 z4g z4h z7f
  rw [h]
  exact ⟨rfl, rfl, rfl, rfl, rfl, rfl⟩
noncomputable def z3p {R : Type} (q0z : Nat) (t43 : Int) (b0 : List Nat) (q0j : Nat) (t44 : Int) (kn_ : Int → Option R) (k0_ : Unit → Option R) (k1_ : Int → Bool → Option R) : Option R := (br (ltI t44 t43) (grd (okIx t44 q0z) (grd (z98 (gF b0 (ixO 0 t44 1)) 3204448256 1056964608) (br (bnot (z8t (gF b0 (ixO 0 t44 1)) 3204448256 1056964608)) (k0_ ()) (br (ltI 0 t44) (grd (okIx (subI IntKind.i64 t44 1) q0j) (br (fcmp BinOp.geq FloatKind.f32 (gF b0 (ixO 0 (subI IntKind.i64 t44 1) 1)) (gF b0 (ixO 0 t44 1))) (k0_ ()) (kn_ (addI IntKind.i64 t44 1)))) (kn_ (addI IntKind.i64 t44 1)))))) (k1_ t44 (ltI t44 t43)))
theorem za5 {R R' : Type} (o : Option R → Option R') (h0 : o none = none) (q0z : Nat) (t43 : Int) (b0 : List Nat) (q0j : Nat) (t44 : Int) (kn_ : Int → Option R) (k0_ : Unit → Option R) (k1_ : Int → Bool → Option R) : z3p q0z t43 b0 q0j t44 (fun t44' => o (kn_ t44')) (fun _ => o (k0_ ())) (fun c0_ c1_ => o (k1_ c0_ c1_)) = o (z3p q0z t43 b0 q0j t44 kn_ k0_ k1_) := by
  unfold z3p
  repeat (first | refine grd_out h0 ?_ | refine br_out ?_ ?_ | rfl | exact h0.symm)
noncomputable def z2z (q0z : Nat) (t43 : Int) (b0 : List Nat) (q0j : Nat) : Nat → Int → Option ((Unit) ⊕ (Int × Bool))
  | 0, _ => none
  | n + 1, t44 => z3p q0z t43 b0 q0j  t44  (fun t44' => z2z q0z t43 b0 q0j n t44') (fun _ => some (Sum.inl ())) (fun c0_ c1_ => some (Sum.inr (c0_, c1_)))
theorem z8r (q0z : Nat) (t43 : Int) (b0 : List Nat) (q0j : Nat) (n : Nat) (t44 : Int) : z2z q0z t43 b0 q0j (n + 1) t44 = z3p q0z t43 b0 q0j  t44  (fun t44' => z2z q0z t43 b0 q0j n t44') (fun _ => some (Sum.inl ())) (fun c0_ c1_ => some (Sum.inr (c0_, c1_))) := rfl
noncomputable def z4b (q0z : Nat) (t43 : Int) (b0 : List Nat) (q0j : Nat) (t44 : Int) : Bool := (z2z q0z t43 b0 q0j big t44).isSome
noncomputable def z47 (q0z : Nat) (t43 : Int) (b0 : List Nat) (q0j : Nat) (t44 : Int) : Bool := oL (z2z q0z t43 b0 q0j big t44)
noncomputable def z6o (q0z : Nat) (t43 : Int) (b0 : List Nat) (q0j : Nat) (t44 : Int) : Int := ((tR (z2z q0z t43 b0 q0j big t44)).getD default).1
noncomputable def z6r (q0z : Nat) (t43 : Int) (b0 : List Nat) (q0j : Nat) (t44 : Int) : Bool := ((tR (z2z q0z t43 b0 q0j big t44)).getD default).2
theorem zaf {q0z : Nat} {t43 : Int} {b0 : List Nat} {q0j : Nat} {t44 : Int} {m : Nat} {r : Unit} (hm : m = big) (h : z2z q0z t43 b0 q0j m t44 = some (Sum.inl r)) : z4b q0z t43 b0 q0j t44 = true ∧ z47 q0z t43 b0 q0j t44 = true := by
  subst hm
  unfold z4b z47
  rw [h]
  exact ⟨rfl, rfl⟩
theorem zaj {q0z : Nat} {t43 : Int} {b0 : List Nat} {q0j : Nat} {t44 : Int} {m : Nat} {r : Int × Bool} (hm : m = big) (h : z2z q0z t43 b0 q0j m t44 = some (Sum.inr r)) : z4b q0z t43 b0 q0j t44 = true ∧ z47 q0z t43 b0 q0j t44 = false ∧ z6o q0z t43 b0 q0j t44 = r.1 ∧ z6r q0z t43 b0 q0j t44 = r.2 := by
  subst hm
  unfold z4b z47 z6o z6r
  rw [h]
  exact ⟨rfl, rfl, rfl, rfl⟩
noncomputable def z6w {R : Type} (q09 : Nat) (q0i : List Nat) (q0a : Nat) (q0k : List Nat) (q0b : Nat) (q0m : List Nat) (q0r : Nat) (k_ : Nat → Bool → Option R) : Option R := (grd (z9v q09 (pF q0i 0 (muN q09 1)) q0a (pF q0k 0 (muN q0a 1)) q0b (pF q0m 0 (muN q0b 1)) q0r) (br (bnot (z9q q09 (pF q0i 0 (muN q09 1)) q0a (pF q0k 0 (muN q0a 1)) q0b (pF q0m 0 (muN q0b 1)) q0r)) (k_ 0 Bool.false) (grd (z9o q09 (pF q0i 0 (muN q09 1)) q0a (pF q0k 0 (muN q0a 1)) q0b (pF q0m 0 (muN q0b 1)) q0r) (grd (okIx (z5g q09 (pF q0i 0 (muN q09 1)) q0a (pF q0k 0 (muN q0a 1)) q0b (pF q0m 0 (muN q0b 1)) q0r) q0a) (grd (okIx (z5f q09 (pF q0i 0 (muN q09 1)) q0a (pF q0k 0 (muN q0a 1)) q0b (pF q0m 0 (muN q0b 1)) q0r) q0a) (grd (z90 (fop BinOp.quo FloatKind.f32 (fop BinOp.sub FloatKind.f32 (gF q0k (ixO 0 (z5g q09 (pF q0i 0 (muN q09 1)) q0a (pF q0k 0 (muN q0a 1)) q0b (pF q0m 0 (muN q0b 1)) q0r) 1)) (gF q0k (ixO 0 (z5f q09 (pF q0i 0 (muN q09 1)) q0a (pF q0k 0 (muN q0a 1)) q0b (pF q0m 0 (muN q0b 1)) q0r) 1))) (z6i q09 (pF q0i 0 (muN q09 1)) q0a (pF q0k 0 (muN q0a 1)) q0b (pF q0m 0 (muN q0b 1)) q0r))) (k_ (z84 (fop BinOp.quo FloatKind.f32 (fop BinOp.sub FloatKind.f32 (gF q0k (ixO 0 (z5g q09 (pF q0i 0 (muN q09 1)) q0a (pF q0k 0 (muN q0a 1)) q0b (pF q0m 0 (muN q0b 1)) q0r) 1)) (gF q0k (ixO 0 (z5f q09 (pF q0i 0 (muN q09 1)) q0a (pF q0k 0 (muN q0a 1)) q0b (pF q0m 0 (muN q0b 1)) q0r) 1))) (z6i q09 (pF q0i 0 (muN q09 1)) q0a (pF q0k 0 (muN q0a 1)) q0b (pF q0m 0 (muN q0b 1)) q0r))) (z87 (fop BinOp.quo FloatKind.f32 (fop BinOp.sub FloatKind.f32 (gF q0k (ixO 0 (z5g q09 (pF q0i 0 (muN q09 1)) q0a (pF q0k 0 (muN q0a 1)) q0b (pF q0m 0 (muN q0b 1)) q0r) 1)) (gF q0k (ixO 0 (z5f q09 (pF q0i 0 (muN q09 1)) q0a (pF q0k 0 (muN q0a 1)) q0b (pF q0m 0 (muN q0b 1)) q0r) 1))) (z6i q09 (pF q0i 0 (muN q09 1)) q0a (pF q0k 0 (muN q0a 1)) q0b (pF q0m 0 (muN q0b 1)) q0r))))))))))
noncomputable def z6a (q09 : Nat) (q0i : List Nat) (q0a : Nat) (q0k : List Nat) (q0b : Nat) (q0m : List Nat) (q0r : Nat) : Option (Nat × Bool) := z6w q09 q0i q0a q0k q0b q0m q0r (fun c0_ c1_ => some (c0_, c1_))
theorem zcc {R R' : Type} (o : Option R → Option R') (h0 : o none = none) (q09 : Nat) (q0i : List Nat) (q0a : Nat) (q0k : List Nat) (q0b : Nat) (q0m : List Nat) (q0r : Nat) (k_ : Nat → Bool → Option R) : z6w q09 q0i q0a q0k q0b q0m q0r (fun c0_ c1_ => o (k_ c0_ c1_)) = o (z6w q09 q0i q0a q0k q0b q0m q0r k_) := by
  unfold z6w
  repeat (first | refine grd_out h0 ?_ | refine br_out ?_ ?_ | rfl | exact h0.symm)
noncomputable def z9m (q09 : Nat) (q0i : List Nat) (q0a : Nat) (q0k : List Nat) (q0b : Nat) (q0m : List Nat) (q0r : Nat) : Bool := (z6a q09 q0i q0a q0k q0b q0m q0r).isSome
noncomputable def z7u (q09 : Nat) (q0i : List Nat) (q0a : Nat) (q0k : List Nat) (q0b : Nat) (q0m : List Nat) (q0r : Nat) : Nat := ((z6a q09 q0i q0a q0k q0b q0m q0r).getD default).1
noncomputable def z9a (q09 : Nat) (q0i : List Nat) (q0a : Nat) (q0k : List Nat) (q0b : Nat) (q0m : List Nat) (q0r : Nat) : Bool := ((z6a q09 q0i q0a q0k q0b q0m q0r).getD default).2
theorem zdm {q09 : Nat} {q0i : List Nat} {q0a : Nat} {q0k : List Nat} {q0b : Nat} {q0m : List Nat} {q0r : Nat} {r : Nat × Bool} (h : z6a q09 q0i q0a q0k q0b q0m q0r = some r) : z9m q09 q0i q0a q0k q0b q0m q0r = true ∧ z7u q09 q0i q0a q0k q0b q0m q0r = r.1 ∧ z9a q09 q0i q0a q0k q0b q0m q0r = r.2 := by
  unfold z9m z7u z9a
  rw [h]
  exact ⟨rfl, rfl, rfl⟩
noncomputable def z4v {R : Type} (q00 : Nat) (q01 : List Nat) (q05 : Nat) (q07 : List Nat) (q06 : Nat) (q08 : List Nat) (k_ : Bool → Option R) : Option R := (br (ltI (Int.ofNat q00) 2) (k_ Bool.false) (br (ltI 24 (Int.ofNat q00)) (k_ Bool.false) (br (neI (Int.ofNat q05) (Int.ofNat q00)) (k_ Bool.false) (br (neI (Int.ofNat q06) (Int.ofNat q00)) (k_ Bool.false) (grd (z8y q05 (pF q07 0 (muN q05 1))) (br (bnot (z8a q05 (pF q07 0 (muN q05 1)))) (k_ Bool.false) (grd (z9b q06 (pF q08 0 (muN q06 1))) (br (bnot (z8x q06 (pF q08 0 (muN q06 1)))) (k_ Bool.false) (grd (z4b q00 (Int.ofNat q00) q01 q00 0) (br (z47 q00 (Int.ofNat q00) q01 q00 0) (k_ Bool.false) (k_ Bool.true)))))))))))
noncomputable def z4u (q00 : Nat) (q01 : List Nat) (q05 : Nat) (q07 : List Nat) (q06 : Nat) (q08 : List Nat) : Option (Bool) := z4v q00 q01 q05 q07 q06 q08 (fun c0_ => some c0_)
theorem zar {R R' : Type} (o : Option R → Option R') (h0 : o none = none) (q00 : Nat) (q01 : List Nat) (q05 : Nat) (q07 : List Nat) (q06 : Nat) (q08 : List Nat) (k_ : Bool → Option R) : z4v q00 q01 q05 q07 q06 q08 (fun c0_ => o (k_ c0_)) = o (z4v q00 q01 q05 q07 q06 q08 k_) := by
  unfold z4v
  repeat (first | refine grd_out h0 ?_ | refine br_out ?_ ?_ | rfl | exact h0.symm)
noncomputable def z76 (q00 : Nat) (q01 : List Nat) (q05 : Nat) (q07 : List Nat) (q06 : Nat) (q08 : List Nat) : Bool := (z4u q00 q01 q05 q07 q06 q08).isSome
noncomputable def z6p (q00 : Nat) (q01 : List Nat) (q05 : Nat) (q07 : List Nat) (q06 : Nat) (q08 : List Nat) : Bool := ((z4u q00 q01 q05 q07 q06 q08).getD default)
theorem zbv {q00 : Nat} {q01 : List Nat} {q05 : Nat} {q07 : List Nat} {q06 : Nat} {q08 : List Nat} {r : Bool} (h : z4u q00 q01 q05 q07 q06 q08 = some r) : z76 q00 q01 q05 q07 q06 q08 = true ∧ z6p q00 q01 q05 q07 q06 q08 = r := by
  unfold z76 z6p
  rw [h]
  exact ⟨rfl, rfl⟩
noncomputable def z6y {R : Type} (q09 : Nat) (q0i : List Nat) (q0a : Nat) (q0k : List Nat) (q0b : Nat) (q0m : List Nat) (q0r : Nat) (k_ : Nat → Bool → Option R) : Option R := (grd (z76 q09 (pF q0i 0 (muN q09 1)) q0a (pF q0k 0 (muN q0a 1)) q0b (pF q0m 0 (muN q0b 1))) (br (bnot (z6p q09 (pF q0i 0 (muN q09 1)) q0a (pF q0k 0 (muN q0a 1)) q0b (pF q0m 0 (muN q0b 1)))) (k_ 0 Bool.false) (grd (z5e q0r) (br (bnot (z53 q0r)) (k_ 0 Bool.false) (grd (z6b q09 (pF q0i 0 (muN q09 1)) q0a (pF q0k 0 (muN q0a 1)) q0b (pF q0m 0 (muN q0b 1)) q0r) (grd (okIx (z46 q09 (pF q0i 0 (muN q09 1)) q0a (pF q0k 0 (muN q0a 1)) q0b (pF q0m 0 (muN q0b 1)) q0r) q0a) (grd (okIx (z45 q09 (pF q0i 0 (muN q09 1)) q0a (pF q0k 0 (muN q0a 1)) q0b (pF q0m 0 (muN q0b 1)) q0r) q0a) (grd (z9k (fop BinOp.quo FloatKind.f32 (fop BinOp.sub FloatKind.f32 (gF q0k (ixO 0 (z46 q09 (pF q0i 0 (muN q09 1)) q0a (pF q0k 0 (muN q0a 1)) q0b (pF q0m 0 (muN q0b 1)) q0r) 1)) (gF q0k (ixO 0 (z45 q09 (pF q0i 0 (muN q09 1)) q0a (pF q0k 0 (muN q0a 1)) q0b (pF q0m 0 (muN q0b 1)) q0r) 1))) (fop BinOp.sub FloatKind.f32 (z4h q09 (pF q0i 0 (muN q09 1)) q0a (pF q0k 0 (muN q0a 1)) q0b (pF q0m 0 (muN q0b 1)) q0r) (z4g q09 (pF q0i 0 (muN q09 1)) q0a (pF q0k 0 (muN q0a 1)) q0b (pF q0m 0 (muN q0b 1)) q0r)))) (k_ (z95 (fop BinOp.quo FloatKind.f32 (fop BinOp.sub FloatKind.f32 (gF q0k (ixO 0 (z46 q09 (pF q0i 0 (muN q09 1)) q0a (pF q0k 0 (muN q0a 1)) q0b (pF q0m 0 (muN q0b 1)) q0r) 1)) (gF q0k (ixO 0 (z45 q09 (pF q0i 0 (muN q09 1)) q0a (pF q0k 0 (muN q0a 1)) q0b (pF q0m 0 (muN q0b 1)) q0r) 1))) (fop BinOp.sub FloatKind.f32 (z4h q09 (pF q0i 0 (muN q09 1)) q0a (pF q0k 0 (muN q0a 1)) q0b (pF q0m 0 (muN q0b 1)) q0r) (z4g q09 (pF q0i 0 (muN q09 1)) q0a (pF q0k 0 (muN q0a 1)) q0b (pF q0m 0 (muN q0b 1)) q0r)))) (z99 (fop BinOp.quo FloatKind.f32 (fop BinOp.sub FloatKind.f32 (gF q0k (ixO 0 (z46 q09 (pF q0i 0 (muN q09 1)) q0a (pF q0k 0 (muN q0a 1)) q0b (pF q0m 0 (muN q0b 1)) q0r) 1)) (gF q0k (ixO 0 (z45 q09 (pF q0i 0 (muN q09 1)) q0a (pF q0k 0 (muN q0a 1)) q0b (pF q0m 0 (muN q0b 1)) q0r) 1))) (fop BinOp.sub FloatKind.f32 (z4h q09 (pF q0i 0 (muN q09 1)) q0a (pF q0k 0 (muN q0a 1)) q0b (pF q0m 0 (muN q0b 1)) q0r) (z4g q09 (pF q0i 0 (muN q09 1)) q0a (pF q0k 0 (muN q0a 1)) q0b (pF q0m 0 (muN q0b 1)) q0r)))))))))))))
noncomputable def z63 (q09 : Nat) (q0i : List Nat) (q0a : Nat) (q0k : List Nat) (q0b : Nat) (q0m : List Nat) (q0r : Nat) : Option (Nat × Bool) := z6y q09 q0i q0a q0k q0b q0m q0r (fun c0_ c1_ => some (c0_, c1_))
theorem zce {R R' : Type} (o : Option R → Option R') (h0 : o none = none) (q09 : Nat) (q0i : List Nat) (q0a : Nat) (q0k : List Nat) (q0b : Nat) (q0m : List Nat) (q0r : Nat) (k_ : Nat → Bool → Option R) : z6y q09 q0i q0a q0k q0b q0m q0r (fun c0_ c1_ => o (k_ c0_ c1_)) = o (z6y q09 q0i q0a q0k q0b q0m q0r k_) := by
  unfold z6y
  repeat (first | refine grd_out h0 ?_ | refine br_out ?_ ?_ | rfl | exact h0.symm)
noncomputable def z9n (q09 : Nat) (q0i : List Nat) (q0a : Nat) (q0k : List Nat) (q0b : Nat) (q0m : List Nat) (q0r : Nat) : Bool := (z63 q09 q0i q0a q0k q0b q0m q0r).isSome
noncomputable def z7k (q09 : Nat) (q0i : List Nat) (q0a : Nat) (q0k : List Nat) (q0b : Nat) (q0m : List Nat) (q0r : Nat) : Nat := ((z63 q09 q0i q0a q0k q0b q0m q0r).getD default).1
noncomputable def z97 (q09 : Nat) (q0i : List Nat) (q0a : Nat) (q0k : List Nat) (q0b : Nat) (q0m : List Nat) (q0r : Nat) : Bool := ((z63 q09 q0i q0a q0k q0b q0m q0r).getD default).2
theorem zdi {q09 : Nat} {q0i : List Nat} {q0a : Nat} {q0k : List Nat} {q0b : Nat} {q0m : List Nat} {q0r : Nat} {r : Nat × Bool} (h : z63 q09 q0i q0a q0k q0b q0m q0r = some r) : z9n q09 q0i q0a q0k q0b q0m q0r = true ∧ z7k q09 q0i q0a q0k q0b q0m q0r = r.1 ∧ z97 q09 q0i q0a q0k q0b q0m q0r = r.2 := by
  unfold z9n z7k z97
  rw [h]
  exact ⟨rfl, rfl, rfl⟩
noncomputable def z4m {R : Type} (q02 : Nat) (q0d : List Nat) (q04 : Nat) (q0g : List Nat) (q03 : Nat) (q0f : List Nat) (q10 : Nat) (k_ : Bool → Option R) : Option R := (grd (z74 q02 (pF q0d 0 (muN q02 1)) q04 (pF q0g 0 (muN q04 1)) q03 (pF q0f 0 (muN q03 1)) 1048576) (br (ltI (z6k q02 (pF q0d 0 (muN q02 1)) q04 (pF q0g 0 (muN q04 1)) q03 (pF q0f 0 (muN q03 1)) 1048576) 0) (k_ Bool.true) (grd (z50 q02 (pF q0d 0 (muN q02 1)) q04 (pF q0g 0 (muN q04 1)) q03 (pF q0f 0 (muN q03 1))) (grd (z9m (z2c q02 (pF q0d 0 (muN q02 1)) q04 (pF q0g 0 (muN q04 1)) q03 (pF q0f 0 (muN q03 1))) (pF (z36 q02 (pF q0d 0 (muN q02 1)) q04 (pF q0g 0 (muN q04 1)) q03 (pF q0f 0 (muN q03 1))) 0 (muN (z2c q02 (pF q0d 0 (muN q02 1)) q04 (pF q0g 0 (muN q04 1)) q03 (pF q0f 0 (muN q03 1))) 1)) (z2f q02 (pF q0d 0 (muN q02 1)) q04 (pF q0g 0 (muN q04 1)) q03 (pF q0f 0 (muN q03 1))) (pF (z35 q02 (pF q0d 0 (muN q02 1)) q04 (pF q0g 0 (muN q04 1)) q03 (pF q0f 0 (muN q03 1))) 0 (muN (z2f q02 (pF q0d 0 (muN q02 1)) q04 (pF q0g 0 (muN q04 1)) q03 (pF q0f 0 (muN q03 1))) 1)) (z2e q02 (pF q0d 0 (muN q02 1)) q04 (pF q0g 0 (muN q04 1)) q03 (pF q0f 0 (muN q03 1))) (pF (z37 q02 (pF q0d 0 (muN q02 1)) q04 (pF q0g 0 (muN q04 1)) q03 (pF q0f 0 (muN q03 1))) 0 (muN (z2e q02 (pF q0d 0 (muN q02 1)) q04 (pF q0g 0 (muN q04 1)) q03 (pF q0f 0 (muN q03 1))) 1)) q10) (grd (z50 q02 (pF q0d 0 (muN q02 1)) q04 (pF q0g 0 (muN q04 1)) q03 (pF q0f 0 (muN q03 1))) (grd (z9n (z2c q02 (pF q0d 0 (muN q02 1)) q04 (pF q0g 0 (muN q04 1)) q03 (pF q0f 0 (muN q03 1))) (pF (z36 q02 (pF q0d 0 (muN q02 1)) q04 (pF q0g 0 (muN q04 1)) q03 (pF q0f 0 (muN q03 1))) 0 (muN (z2c q02 (pF q0d 0 (muN q02 1)) q04 (pF q0g 0 (muN q04 1)) q03 (pF q0f 0 (muN q03 1))) 1)) (z2f q02 (pF q0d 0 (muN q02 1)) q04 (pF q0g 0 (muN q04 1)) q03 (pF q0f 0 (muN q03 1))) (pF (z35 q02 (pF q0d 0 (muN q02 1)) q04 (pF q0g 0 (muN q04 1)) q03 (pF q0f 0 (muN q03 1))) 0 (muN (z2f q02 (pF q0d 0 (muN q02 1)) q04 (pF q0g 0 (muN q04 1)) q03 (pF q0f 0 (muN q03 1))) 1)) (z2e q02 (pF q0d 0 (muN q02 1)) q04 (pF q0g 0 (muN q04 1)) q03 (pF q0f 0 (muN q03 1))) (pF (z37 q02 (pF q0d 0 (muN q02 1)) q04 (pF q0g 0 (muN q04 1)) q03 (pF q0f 0 (muN q03 1))) 0 (muN (z2e q02 (pF q0d 0 (muN q02 1)) q04 (pF q0g 0 (muN q04 1)) q03 (pF q0f 0 (muN q03 1))) 1)) q10) (grd (z73 (fcvV FloatKind.f32 FloatKind.f64 (z7k (z2c q02 (pF q0d 0 (muN q02 1)) q04 (pF q0g 0 (muN q04 1)) q03 (pF q0f 0 (muN q03 1))) (pF (z36 q02 (pF q0d 0 (muN q02 1)) q04 (pF q0g 0 (muN q04 1)) q03 (pF q0f 0 (muN q03 1))) 0 (muN (z2c q02 (pF q0d 0 (muN q02 1)) q04 (pF q0g 0 (muN q04 1)) q03 (pF q0f 0 (muN q03 1))) 1)) (z2f q02 (pF q0d 0 (muN q02 1)) q04 (pF q0g 0 (muN q04 1)) q03 (pF q0f 0 (muN q03 1))) (pF (z35 q02 (pF q0d 0 (muN q02 1)) q04 (pF q0g 0 (muN q04 1)) q03 (pF q0f 0 (muN q03 1))) 0 (muN (z2f q02 (pF q0d 0 (muN q02 1)) q04 (pF q0g 0 (muN q04 1)) q03 (pF q0f 0 (muN q03 1))) 1)) (z2e q02 (pF q0d 0 (muN q02 1)) q04 (pF q0g 0 (muN q04 1)) q03 (pF q0f 0 (muN q03 1))) (pF (z37 q02 (pF q0d 0 (muN q02 1)) q04 (pF q0g 0 (muN q04 1)) q03 (pF q0f 0 (muN q03 1))) 0 (muN (z2e q02 (pF q0d 0 (muN q02 1)) q04 (pF q0g 0 (muN q04 1)) q03 (pF q0f 0 (muN q03 1))) 1)) q10)) (fcvV FloatKind.f32 FloatKind.f64 (z7u (z2c q02 (pF q0d 0 (muN q02 1)) q04 (pF q0g 0 (muN q04 1)) q03 (pF q0f 0 (muN q03 1))) (pF (z36 q02 (pF q0d 0 (muN q02 1)) q04 (pF q0g 0 (muN q04 1)) q03 (pF q0f 0 (muN q03 1))) 0 (muN (z2c q02 (pF q0d 0 (muN q02 1)) q04 (pF q0g 0 (muN q04 1)) q03 (pF q0f 0 (muN q03 1))) 1)) (z2f q02 (pF q0d 0 (muN q02 1)) q04 (pF q0g 0 (muN q04 1)) q03 (pF q0f 0 (muN q03 1))) (pF (z35 q02 (pF q0d 0 (muN q02 1)) q04 (pF q0g 0 (muN q04 1)) q03 (pF q0f 0 (muN q03 1))) 0 (muN (z2f q02 (pF q0d 0 (muN q02 1)) q04 (pF q0g 0 (muN q04 1)) q03 (pF q0f 0 (muN q03 1))) 1)) (z2e q02 (pF q0d 0 (muN q02 1)) q04 (pF q0g 0 (muN q04 1)) q03 (pF q0f 0 (muN q03 1))) (pF (z37 q02 (pF q0d 0 (muN q02 1)) q04 (pF q0g 0 (muN q04 1)) q03 (pF q0f 0 (muN q03 1))) 0 (muN (z2e q02 (pF q0d 0 (muN q02 1)) q04 (pF q0g 0 (muN q04 1)) q03 (pF q0f 0 (muN q03 1))) 1)) q10))) (br (bnot (z6m (fcvV FloatKind.f32 FloatKind.f64 (z7k (z2c q02 (pF q0d 0 (muN q02 1)) q04 (pF q0g 0 (muN q04 1)) q03 (pF q0f 0 (muN q03 1))) (pF (z36 q02 (pF q0d 0 (muN q02 1)) q04 (pF q0g 0 (muN q04 1)) q03 (pF q0f 0 (muN q03 1))) 0 (muN (z2c q02 (pF q0d 0 (muN q02 1)) q04 (pF q0g 0 (muN q04 1)) q03 (pF q0f 0 (muN q03 1))) 1)) (z2f q02 (pF q0d 0 (muN q02 1)) q04 (pF q0g 0 (muN q04 1)) q03 (pF q0f 0 (muN q03 1))) (pF (z35 q02 (pF q0d 0 (muN q02 1)) q04 (pF q0g 0 (muN q04 1)) q03 (pF q0f 0 (muN q03 1))) 0 (muN (z2f q02 (pF q0d 0 (muN q02 1)) q04 (pF q0g 0 (muN q04 1)) q03 (pF q0f 0 (muN q03 1))) 1)) (z2e q02 (pF q0d 0 (muN q02 1)) q04 (pF q0g 0 (muN q04 1)) q03 (pF q0f 0 (muN q03 1))) (pF (z37 q02 (pF q0d 0 (muN q02 1)) q04 (pF q0g 0 (muN q04 1)) q03 (pF q0f 0 (muN q03 1))) 0 (muN (z2e q02 (pF q0d 0 (muN q02 1)) q04 (pF q0g 0 (muN q04 1)) q03 (pF q0f 0 (muN q03 1))) 1)) q10)) (fcvV FloatKind.f32 FloatKind.f64 (z7u (z2c q02 (pF q0d 0 (muN q02 1)) q04 (pF q0g 0 (muN q04 1)) q03 (pF q0f 0 (muN q03 1))) (pF (z36 q02 (pF q0d 0 (muN q02 1)) q04 (pF q0g 0 (muN q04 1)) q03 (pF q0f 0 (muN q03 1))) 0 (muN (z2c q02 (pF q0d 0 (muN q02 1)) q04 (pF q0g 0 (muN q04 1)) q03 (pF q0f 0 (muN q03 1))) 1)) (z2f q02 (pF q0d 0 (muN q02 1)) q04 (pF q0g 0 (muN q04 1)) q03 (pF q0f 0 (muN q03 1))) (pF (z35 q02 (pF q0d 0 (muN q02 1)) q04 (pF q0g 0 (muN q04 1)) q03 (pF q0f 0 (muN q03 1))) 0 (muN (z2f q02 (pF q0d 0 (muN q02 1)) q04 (pF q0g 0 (muN q04 1)) q03 (pF q0f 0 (muN q03 1))) 1)) (z2e q02 (pF q0d 0 (muN q02 1)) q04 (pF q0g 0 (muN q04 1)) q03 (pF q0f 0 (muN q03 1))) (pF (z37 q02 (pF q0d 0 (muN q02 1)) q04 (pF q0g 0 (muN q04 1)) q03 (pF q0f 0 (muN q03 1))) 0 (muN (z2e q02 (pF q0d 0 (muN q02 1)) q04 (pF q0g 0 (muN q04 1)) q03 (pF q0f 0 (muN q03 1))) 1)) q10)))) (k_ Bool.false) (br (bnot (beqB (z97 (z2c q02 (pF q0d 0 (muN q02 1)) q04 (pF q0g 0 (muN q04 1)) q03 (pF q0f 0 (muN q03 1))) (pF (z36 q02 (pF q0d 0 (muN q02 1)) q04 (pF q0g 0 (muN q04 1)) q03 (pF q0f 0 (muN q03 1))) 0 (muN (z2c q02 (pF q0d 0 (muN q02 1)) q04 (pF q0g 0 (muN q04 1)) q03 (pF q0f 0 (muN q03 1))) 1)) (z2f q02 (pF q0d 0 (muN q02 1)) q04 (pF q0g 0 (muN q04 1)) q03 (pF q0f 0 (muN q03 1))) (pF (z35 q02 (pF q0d 0 (muN q02 1)) q04 (pF q0g 0 (muN q04 1)) q03 (pF q0f 0 (muN q03 1))) 0 (muN (z2f q02 (pF q0d 0 (muN q02 1)) q04 (pF q0g 0 (muN q04 1)) q03 (pF q0f 0 (muN q03 1))) 1)) (z2e q02 (pF q0d 0 (muN q02 1)) q04 (pF q0g 0 (muN q04 1)) q03 (pF q0f 0 (muN q03 1))) (pF (z37 q02 (pF q0d 0 (muN q02 1)) q04 (pF q0g 0 (muN q04 1)) q03 (pF q0f 0 (muN q03 1))) 0 (muN (z2e q02 (pF q0d 0 (muN q02 1)) q04 (pF q0g 0 (muN q04 1)) q03 (pF q0f 0 (muN q03 1))) 1)) q10) (z9a (z2c q02 (pF q0d 0 (muN q02 1)) q04 (pF q0g 0 (muN q04 1)) q03 (pF q0f 0 (muN q03 1))) (pF (z36 q02 (pF q0d 0 (muN q02 1)) q04 (pF q0g 0 (muN q04 1)) q03 (pF q0f 0 (muN q03 1))) 0 (muN (z2c q02 (pF q0d 0 (muN q02 1)) q04 (pF q0g 0 (muN q04 1)) q03 (pF q0f 0 (muN q03 1))) 1)) (z2f q02 (pF q0d 0 (muN q02 1)) q04 (pF q0g 0 (muN q04 1)) q03 (pF q0f 0 (muN q03 1))) (pF (z35 q02 (pF q0d 0 (muN q02 1)) q04 (pF q0g 0 (muN q04 1)) q03 (pF q0f 0 (muN q03 1))) 0 (muN (z2f q02 (pF q0d 0 (muN q02 1)) q04 (pF q0g 0 (muN q04 1)) q03 (pF q0f 0 (muN q03 1))) 1)) (z2e q02 (pF q0d 0 (muN q02 1)) q04 (pF q0g 0 (muN q04 1)) q03 (pF q0f 0 (muN q03 1))) (pF (z37 q02 (pF q0d 0 (muN q02 1)) q04 (pF q0g 0 (muN q04 1)) q03 (pF q0f 0 (muN q03 1))) 0 (muN (z2e q02 (pF q0d 0 (muN q02 1)) q04 (pF q0g 0 (muN q04 1)) q03 (pF q0f 0 (muN q03 1))) 1)) q10))) (k_ Bool.false) (grd (z50 q02 (pF q0d 0 (muN q02 1)) q04 (pF q0g 0 (muN q04 1)) q03 (pF q0f 0 (muN q03 1))) (grd (z75 (z2c q02 (pF q0d 0 (muN q02 1)) q04 (pF q0g 0 (muN q04 1)) q03 (pF q0f 0 (muN q03 1))) (pF (z36 q02 (pF q0d 0 (muN q02 1)) q04 (pF q0g 0 (muN q04 1)) q03 (pF q0f 0 (muN q03 1))) 0 (muN (z2c q02 (pF q0d 0 (muN q02 1)) q04 (pF q0g 0 (muN q04 1)) q03 (pF q0f 0 (muN q03 1))) 1)) (z2f q02 (pF q0d 0 (muN q02 1)) q04 (pF q0g 0 (muN q04 1)) q03 (pF q0f 0 (muN q03 1))) (pF (z35 q02 (pF q0d 0 (muN q02 1)) q04 (pF q0g 0 (muN q04 1)) q03 (pF q0f 0 (muN q03 1))) 0 (muN (z2f q02 (pF q0d 0 (muN q02 1)) q04 (pF q0g 0 (muN q04 1)) q03 (pF q0f 0 (muN q03 1))) 1)) (z2e q02 (pF q0d 0 (muN q02 1)) q04 (pF q0g 0 (muN q04 1)) q03 (pF q0f 0 (muN q03 1))) (pF (z37 q02 (pF q0d 0 (muN q02 1)) q04 (pF q0g 0 (muN q04 1)) q03 (pF q0f 0 (muN q03 1))) 0 (muN (z2e q02 (pF q0d 0 (muN q02 1)) q04 (pF q0g 0 (muN q04 1)) q03 (pF q0f 0 (muN q03 1))) 1)) (z2c q02 (pF q0d 0 (muN q02 1)) q04 (pF q0g 0 (muN q04 1)) q03 (pF q0f 0 (muN q03 1))) (pF (z36 q02 (pF q0d 0 (muN q02 1)) q04 (pF q0g 0 (muN q04 1)) q03 (pF q0f 0 (muN q03 1))) 0 (muN (z2c q02 (pF q0d 0 (muN q02 1)) q04 (pF q0g 0 (muN q04 1)) q03 (pF q0f 0 (muN q03 1))) 1)) (z2f q02 (pF q0d 0 (muN q02 1)) q04 (pF q0g 0 (muN q04 1)) q03 (pF q0f 0 (muN q03 1))) (pF (z35 q02 (pF q0d 0 (muN q02 1)) q04 (pF q0g 0 (muN q04 1)) q03 (pF q0f 0 (muN q03 1))) 0 (muN (z2f q02 (pF q0d 0 (muN q02 1)) q04 (pF q0g 0 (muN q04 1)) q03 (pF q0f 0 (muN q03 1))) 1)) (z2e q02 (pF q0d 0 (muN q02 1)) q04 (pF q0g 0 (muN q04 1)) q03 (pF q0f 0 (muN q03 1))) (pF (z37 q02 (pF q0d 0 (muN q02 1)) q04 (pF q0g 0 (muN q04 1)) q03 (pF q0f 0 (muN q03 1))) 0 (muN (z2e q02 (pF q0d 0 (muN q02 1)) q04 (pF q0g 0 (muN q04 1)) q03 (pF q0f 0 (muN q03 1))) 1))) (br (bnot (z6n (z2c q02 (pF q0d 0 (muN q02 1)) q04 (pF q0g 0 (muN q04 1)) q03 (pF q0f 0 (muN q03 1))) (pF (z36 q02 (pF q0d 0 (muN q02 1)) q04 (pF q0g 0 (muN q04 1)) q03 (pF q0f 0 (muN q03 1))) 0 (muN (z2c q02 (pF q0d 0 (muN q02 1)) q04 (pF q0g 0 (muN q04 1)) q03 (pF q0f 0 (muN q03 1))) 1)) (z2f q02 (pF q0d 0 (muN q02 1)) q04 (pF q0g 0 (muN q04 1)) q03 (pF q0f 0 (muN q03 1))) (pF (z35 q02 (pF q0d 0 (muN q02 1)) q04 (pF q0g 0 (muN q04 1)) q03 (pF q0f 0 (muN q03 1))) 0 (muN (z2f q02 (pF q0d 0 (muN q02 1)) q04 (pF q0g 0 (muN q04 1)) q03 (pF q0f 0 (muN q03 1))) 1)) (z2e q02 (pF q0d 0 (muN q02 1)) q04 (pF q0g 0 (muN q04 1)) q03 (pF q0f 0 (muN q03 1))) (pF (z37 q02 (pF q0d 0 (muN q02 1)) q04 (pF q0g 0 (muN q04 1)) q03 (pF q0f 0 (muN q03 1))) 0 (muN (z2e q02 (pF q0d 0 (muN q02 1)) q04 (pF q0g 0 (muN q04 1)) q03 (pF q0f 0 (muN q03 1))) 1)) (z2c q02 (pF q0d 0 (muN q02 1)) q04 (pF q0g 0 (muN q04 1)) q03 (pF q0f 0 (muN q03 1))) (pF (z36 q02 (pF q0d 0 (muN q02 1)) q04 (pF q0g 0 (muN q04 1)) q03 (pF q0f 0 (muN q03 1))) 0 (muN (z2c q02 (pF q0d 0 (muN q02 1)) q04 (pF q0g 0 (muN q04 1)) q03 (pF q0f 0 (muN q03 1))) 1)) (z2f q02 (pF q0d 0 (muN q02 1)) q04 (pF q0g 0 (muN q04 1)) q03 (pF q0f 0 (muN q03 1))) (pF (z35 q02 (pF q0d 0 (muN q02 1)) q04 (pF q0g 0 (muN q04 1)) q03 (pF q0f 0 (muN q03 1))) 0 (muN (z2f q02 (pF q0d 0 (muN q02 1)) q04 (pF q0g 0 (muN q04 1)) q03 (pF q0f 0 (muN q03 1))) 1)) (z2e q02 (pF q0d 0 (muN q02 1)) q04 (pF q0g 0 (muN q04 1)) q03 (pF q0f 0 (muN q03 1))) (pF (z37 q02 (pF q0d 0 (muN q02 1)) q04 (pF q0g 0 (muN q04 1)) q03 (pF q0f 0 (muN q03 1))) 0 (muN (z2e q02 (pF q0d 0 (muN q02 1)) q04 (pF q0g 0 (muN q04 1)) q03 (pF q0f 0 (muN q03 1))) 1)))) (k_ Bool.false) (k_ Bool.true)))))))))))))
noncomputable def z4l (q02 : Nat) (q0d : List Nat) (q04 : Nat) (q0g : List Nat) (q03 : Nat) (q0f : List Nat) (q10 : Nat) : Option (Bool) := z4m q02 q0d q04 q0g q03 q0f q10 (fun c0_ => some c0_)
theorem zad {R R' : Type} (o : Option R → Option R') (h0 : o none = none) (q02 : Nat) (q0d : List Nat) (q04 : Nat) (q0g : List Nat) (q03 : Nat) (q0f : List Nat) (q10 : Nat) (k_ : Bool → Option R) : z4m q02 q0d q04 q0g q03 q0f q10 (fun c0_ => o (k_ c0_)) = o (z4m q02 q0d q04 q0g q03 q0f q10 k_) := by
  unfold z4m
  repeat (first | refine grd_out h0 ?_ | refine br_out ?_ ?_ | rfl | exact h0.symm)
noncomputable def z8j (q02 : Nat) (q0d : List Nat) (q04 : Nat) (q0g : List Nat) (q03 : Nat) (q0f : List Nat) (q10 : Nat) : Bool := (z4l q02 q0d q04 q0g q03 q0f q10).isSome
noncomputable def z7w (q02 : Nat) (q0d : List Nat) (q04 : Nat) (q0g : List Nat) (q03 : Nat) (q0f : List Nat) (q10 : Nat) : Bool := ((z4l q02 q0d q04 q0g q03 q0f q10).getD default)
theorem zb4 {q02 : Nat} {q0d : List Nat} {q04 : Nat} {q0g : List Nat} {q03 : Nat} {q0f : List Nat} {q10 : Nat} {r : Bool} (h : z4l q02 q0d q04 q0g q03 q0f q10 = some r) : z8j q02 q0d q04 q0g q03 q0f q10 = true ∧ z7w q02 q0d q04 q0g q03 q0f q10 = r := by
  unfold z8j z7w
  rw [h]
  exact ⟨rfl, rfl⟩
end Go.Rf
