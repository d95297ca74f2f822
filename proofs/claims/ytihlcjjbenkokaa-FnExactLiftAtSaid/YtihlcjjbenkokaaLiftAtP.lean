import Derived.Test.YtihlcjjbenkokaaB
set_option linter.unusedVariables false
set_option linter.unusedSimpArgs false
set_option maxRecDepth 100000
set_option maxHeartbeats 4000000
namespace Go.Rf
open Go
noncomputable def z68 {R : Type} (a : Nat) (b : Nat) (k_ : Bool → Option R) : Option R := (br (fcmp BinOp.neq FloatKind.f64 a a) (br (fcmp BinOp.neq FloatKind.f64 a a) (k_ (fcmp BinOp.neq FloatKind.f64 b b)) (k_ Bool.false)) (br (fcmp BinOp.neq FloatKind.f64 b b) (br (fcmp BinOp.neq FloatKind.f64 a a) (k_ (fcmp BinOp.neq FloatKind.f64 b b)) (k_ Bool.false)) (br (fcmp BinOp.eql FloatKind.f64 a 0) (br (fcmp BinOp.eql FloatKind.f64 b 0) (k_ (beqB (fcmp BinOp.gtr FloatKind.f64 (fop BinOp.quo FloatKind.f64 4607182418800017408 a) 0) (fcmp BinOp.gtr FloatKind.f64 (fop BinOp.quo FloatKind.f64 4607182418800017408 b) 0))) (k_ (fcmp BinOp.eql FloatKind.f64 a b))) (k_ (fcmp BinOp.eql FloatKind.f64 a b)))))
noncomputable def z6c (a : Nat) (b : Nat) : Option (Bool) := z68 a b (fun c0_ => some c0_)
theorem zch {R R' : Type} (o : Option R → Option R') (h0 : o none = none) (a : Nat) (b : Nat) (k_ : Bool → Option R) : z68 a b (fun c0_ => o (k_ c0_)) = o (z68 a b k_) := by
  unfold z68
  repeat (first | refine grd_out h0 ?_ | refine br_out ?_ ?_ | rfl | exact h0.symm)
noncomputable def z7f (a : Nat) (b : Nat) : Bool := (z6c a b).isSome
noncomputable def z6v (a : Nat) (b : Nat) : Bool := ((z6c a b).getD default)
theorem zb0 {a : Nat} {b : Nat} {r : Bool} (h : z6c a b = some r) : z7f a b = true ∧ z6v a b = r := by
  unfold z7f z6v
  rw [h]
  exact ⟨rfl, rfl⟩
noncomputable def z5q {R : Type} (a_n : Nat) (a : List Nat) (q0x : Int) (k_ : Int → Option R) : Option R := (br (ltI (subI IntKind.i64 q0x (Int.ofNat a_n)) 0) (k_ (Int.negSucc 0)) (k_ (subI IntKind.i64 q0x (Int.ofNat a_n))))
noncomputable def z5u (a_n : Nat) (a : List Nat) (q0x : Int) : Option (Int) := z5q a_n a q0x (fun c0_ => some c0_)
theorem zby {R R' : Type} (o : Option R → Option R') (h0 : o none = none) (a_n : Nat) (a : List Nat) (q0x : Int) (k_ : Int → Option R) : z5q a_n a q0x (fun c0_ => o (k_ c0_)) = o (z5q a_n a q0x k_) := by
  unfold z5q
  repeat (first | refine grd_out h0 ?_ | refine br_out ?_ ?_ | rfl | exact h0.symm)
noncomputable def z5s (a_n : Nat) (a : List Nat) (q0x : Int) : Bool := (z5u a_n a q0x).isSome
noncomputable def z3g (a_n : Nat) (a : List Nat) (q0x : Int) : Int := ((z5u a_n a q0x).getD default)
theorem z9v {a_n : Nat} {a : List Nat} {q0x : Int} {r : Int} (h : z5u a_n a q0x = some r) : z5s a_n a q0x = true ∧ z3g a_n a q0x = r := by
  unfold z5s z3g
  rw [h]
  exact ⟨rfl, rfl⟩
noncomputable def z7z {R : Type} (x : Nat) (k_ : Bool → Option R) : Option R := (k_ (fcmp BinOp.eql FloatKind.f32 (fop BinOp.sub FloatKind.f32 x x) 0))
noncomputable def z81 (x : Nat) : Option (Bool) := z7z x (fun c0_ => some c0_)
theorem zcv {R R' : Type} (o : Option R → Option R') (h0 : o none = none) (x : Nat) (k_ : Bool → Option R) : z7z x (fun c0_ => o (k_ c0_)) = o (z7z x k_) := by
  unfold z7z
  repeat (first | refine grd_out h0 ?_ | refine br_out ?_ ?_ | rfl | exact h0.symm)
noncomputable def z5p (x : Nat) : Bool := (z81 x).isSome
noncomputable def z5b (x : Nat) : Bool := ((z81 x).getD default)
theorem z98 {x : Nat} {r : Bool} (h : z81 x = some r) : z5p x = true ∧ z5b x = r := by
  unfold z5p z5b
  rw [h]
  exact ⟨rfl, rfl⟩
noncomputable def z7d {R : Type} (x : Nat) (k_ : Bool → Option R) : Option R := (k_ (fcmp BinOp.eql FloatKind.f32 (fop BinOp.sub FloatKind.f32 x x) 0))
noncomputable def z7c (x : Nat) : Option (Bool) := z7d x (fun c0_ => some c0_)
theorem zcn {R R' : Type} (o : Option R → Option R') (h0 : o none = none) (x : Nat) (k_ : Bool → Option R) : z7d x (fun c0_ => o (k_ c0_)) = o (z7d x k_) := by
  unfold z7d
  repeat (first | refine grd_out h0 ?_ | refine br_out ?_ ?_ | rfl | exact h0.symm)
noncomputable def z4j (x : Nat) : Bool := (z7c x).isSome
noncomputable def z4f (x : Nat) : Bool := ((z7c x).getD default)
theorem z8j {x : Nat} {r : Bool} (h : z7c x = some r) : z4j x = true ∧ z4f x = r := by
  unfold z4j z4f
  rw [h]
  exact ⟨rfl, rfl⟩
noncomputable def z6t {R : Type} (x : Nat) (low : Nat) (q15 : Nat) (k_ : Bool → Option R) : Option R := (br (fcmp BinOp.geq FloatKind.f32 x low) (k_ (fcmp BinOp.leq FloatKind.f32 x q15)) (k_ Bool.false))
noncomputable def z6p (x : Nat) (low : Nat) (q15 : Nat) : Option (Bool) := z6t x low q15 (fun c0_ => some c0_)
theorem zcw {R R' : Type} (o : Option R → Option R') (h0 : o none = none) (x : Nat) (low : Nat) (q15 : Nat) (k_ : Bool → Option R) : z6t x low q15 (fun c0_ => o (k_ c0_)) = o (z6t x low q15 k_) := by
  unfold z6t
  repeat (first | refine grd_out h0 ?_ | refine br_out ?_ ?_ | rfl | exact h0.symm)
noncomputable def z9r (x : Nat) (low : Nat) (q15 : Nat) : Bool := (z6p x low q15).isSome
noncomputable def z9e (x : Nat) (low : Nat) (q15 : Nat) : Bool := ((z6p x low q15).getD default)
theorem ze0 {x : Nat} {low : Nat} {q15 : Nat} {r : Bool} (h : z6p x low q15 = some r) : z9r x low q15 = true ∧ z9e x low q15 = r := by
  unfold z9r z9e
  rw [h]
  exact ⟨rfl, rfl⟩
noncomputable def z9t {R : Type} (a : Nat) (b : Nat) (q14 : Nat) (k_ : Nat → Option R) : Option R := (k_ (fop BinOp.add FloatKind.f32 a (fop BinOp.mul FloatKind.f32 q14 (fop BinOp.sub FloatKind.f32 b a))))
noncomputable def z9x (a : Nat) (b : Nat) (q14 : Nat) : Option (Nat) := z9t a b q14 (fun c0_ => some c0_)
theorem zed {R R' : Type} (o : Option R → Option R') (h0 : o none = none) (a : Nat) (b : Nat) (q14 : Nat) (k_ : Nat → Option R) : z9t a b q14 (fun c0_ => o (k_ c0_)) = o (z9t a b q14 k_) := by
  unfold z9t
  repeat (first | refine grd_out h0 ?_ | refine br_out ?_ ?_ | rfl | exact h0.symm)
noncomputable def z9w (a : Nat) (b : Nat) (q14 : Nat) : Bool := (z9x a b q14).isSome
noncomputable def z9j (a : Nat) (b : Nat) (q14 : Nat) : Nat := ((z9x a b q14).getD default)
theorem zf3 {a : Nat} {b : Nat} {q14 : Nat} {r : Nat} (h : z9x a b q14 = some r) : z9w a b q14 = true ∧ z9j a b q14 = r := by
  unfold z9w z9j
  rw [h]
  exact ⟨rfl, rfl⟩
noncomputable def z67 {R : Type} (x : Nat) (k_ : Nat → Option R) : Option R := (grd (fcvB FloatKind.f64 FloatKind.f32 x) (k_ (fcvV FloatKind.f64 FloatKind.f32 x)))
noncomputable def z6b (x : Nat) : Option (Nat) := z67 x (fun c0_ => some c0_)
theorem zco {R R' : Type} (o : Option R → Option R') (h0 : o none = none) (x : Nat) (k_ : Nat → Option R) : z67 x (fun c0_ => o (k_ c0_)) = o (z67 x k_) := by
  unfold z67
  repeat (first | refine grd_out h0 ?_ | refine br_out ?_ ?_ | rfl | exact h0.symm)
noncomputable def z97 (x : Nat) : Bool := (z6b x).isSome
noncomputable def z6y (x : Nat) : Nat := ((z6b x).getD default)
theorem zde {x : Nat} {r : Nat} (h : z6b x = some r) : z97 x = true ∧ z6y x = r := by
  unfold z97 z6y
  rw [h]
  exact ⟨rfl, rfl⟩
noncomputable def z6j {R : Type} (q0f : Nat) (q0n : List Nat) (q0i : Nat) (q0o : List Nat) (q0l : Nat) (q0p : List Nat) (q0x : Int) (k_ : Int → Option R) : Option R := (grd (z5s q0f (pF q0n 0 (muN q0f 1)) q0x) (br (ltI (z3g q0f (pF q0n 0 (muN q0f 1)) q0x) 0) (k_ (Int.negSucc 0)) (grd (z5s q0i (pF q0o 0 (muN q0i 1)) (z3g q0f (pF q0n 0 (muN q0f 1)) q0x)) (br (ltI (z3g q0i (pF q0o 0 (muN q0i 1)) (z3g q0f (pF q0n 0 (muN q0f 1)) q0x)) 0) (k_ (Int.negSucc 0)) (grd (z5s q0l (pF q0p 0 (muN q0l 1)) (z3g q0i (pF q0o 0 (muN q0i 1)) (z3g q0f (pF q0n 0 (muN q0f 1)) q0x))) (br (ltI (z3g q0l (pF q0p 0 (muN q0l 1)) (z3g q0i (pF q0o 0 (muN q0i 1)) (z3g q0f (pF q0n 0 (muN q0f 1)) q0x))) 0) (k_ (Int.negSucc 0)) (k_ (z3g q0l (pF q0p 0 (muN q0l 1)) (z3g q0i (pF q0o 0 (muN q0i 1)) (z3g q0f (pF q0n 0 (muN q0f 1)) q0x))))))))))
noncomputable def z6g (q0f : Nat) (q0n : List Nat) (q0i : Nat) (q0o : List Nat) (q0l : Nat) (q0p : List Nat) (q0x : Int) : Option (Int) := z6j q0f q0n q0i q0o q0l q0p q0x (fun c0_ => some c0_)
theorem zcc {R R' : Type} (o : Option R → Option R') (h0 : o none = none) (q0f : Nat) (q0n : List Nat) (q0i : Nat) (q0o : List Nat) (q0l : Nat) (q0p : List Nat) (q0x : Int) (k_ : Int → Option R) : z6j q0f q0n q0i q0o q0l q0p q0x (fun c0_ => o (k_ c0_)) = o (z6j q0f q0n q0i q0o q0l q0p q0x k_) := by
  unfold z6j
  repeat (first | refine grd_out h0 ?_ | refine br_out ?_ ?_ | rfl | exact h0.symm)
noncomputable def z7g (q0f : Nat) (q0n : List Nat) (q0i : Nat) (q0o : List Nat) (q0l : Nat) (q0p : List Nat) (q0x : Int) : Bool := (z6g q0f q0n q0i q0o q0l q0p q0x).isSome
noncomputable def z6w (q0f : Nat) (q0n : List Nat) (q0i : Nat) (q0o : List Nat) (q0l : Nat) (q0p : List Nat) (q0x : Int) : Int := ((z6g q0f q0n q0i q0o q0l q0p q0x).getD default)
theorem zdd {q0f : Nat} {q0n : List Nat} {q0i : Nat} {q0o : List Nat} {q0l : Nat} {q0p : List Nat} {q0x : Int} {r : Int} (h : z6g q0f q0n q0i q0o q0l q0p q0x = some r) : z7g q0f q0n q0i q0o q0l q0p q0x = true ∧ z6w q0f q0n q0i q0o q0l q0p q0x = r := by
  unfold z7g z6w
  rw [h]
  exact ⟨rfl, rfl⟩
noncomputable def z6i {R : Type} (x : Nat) (k_ : Nat → Bool → Option R) : Option R := (grd (z4j x) (br (bnot (z4f x)) (k_ 0 Bool.false) (k_ x Bool.true)))
noncomputable def z59 (x : Nat) : Option (Nat × Bool) := z6i x (fun c0_ c1_ => some (c0_, c1_))
theorem zcm {R R' : Type} (o : Option R → Option R') (h0 : o none = none) (x : Nat) (k_ : Nat → Bool → Option R) : z6i x (fun c0_ c1_ => o (k_ c0_ c1_)) = o (z6i x k_) := by
  unfold z6i
  repeat (first | refine grd_out h0 ?_ | refine br_out ?_ ?_ | rfl | exact h0.symm)
noncomputable def z99 (x : Nat) : Bool := (z59 x).isSome
noncomputable def z8k (x : Nat) : Nat := ((z59 x).getD default).1
noncomputable def z8g (x : Nat) : Bool := ((z59 x).getD default).2
theorem zdh {x : Nat} {r : Nat × Bool} (h : z59 x = some r) : z99 x = true ∧ z8k x = r.1 ∧ z8g x = r.2 := by
  unfold z99 z8k z8g
  rw [h]
  exact ⟨rfl, rfl, rfl⟩
noncomputable def z7b {R : Type} (x : Nat) (k_ : Nat → Bool → Option R) : Option R := (grd (z5p x) (br (bnot (z5b x)) (k_ 0 Bool.false) (k_ x Bool.true)))
noncomputable def z66 (x : Nat) : Option (Nat × Bool) := z7b x (fun c0_ c1_ => some (c0_, c1_))
theorem zd0 {R R' : Type} (o : Option R → Option R') (h0 : o none = none) (x : Nat) (k_ : Nat → Bool → Option R) : z7b x (fun c0_ c1_ => o (k_ c0_ c1_)) = o (z7b x k_) := by
  unfold z7b
  repeat (first | refine grd_out h0 ?_ | refine br_out ?_ ?_ | rfl | exact h0.symm)
noncomputable def zaa (x : Nat) : Bool := (z66 x).isSome
noncomputable def z9m (x : Nat) : Nat := ((z66 x).getD default).1
noncomputable def z9o (x : Nat) : Bool := ((z66 x).getD default).2
theorem zep {x : Nat} {r : Nat × Bool} (h : z66 x = some r) : zaa x = true ∧ z9m x = r.1 ∧ z9o x = r.2 := by
  unfold zaa z9m z9o
  rw [h]
  exact ⟨rfl, rfl, rfl⟩
noncomputable def z6o {R : Type} (x : Nat) (k_ : Bool → Option R) : Option R := (grd (z4j x) (br (z4f x) (k_ (fcmp BinOp.geq FloatKind.f32 x 0)) (k_ Bool.false)))
noncomputable def z6r (x : Nat) : Option (Bool) := z6o x (fun c0_ => some c0_)
theorem zcz {R R' : Type} (o : Option R → Option R') (h0 : o none = none) (x : Nat) (k_ : Bool → Option R) : z6o x (fun c0_ => o (k_ c0_)) = o (z6o x k_) := by
  unfold z6o
  repeat (first | refine grd_out h0 ?_ | refine br_out ?_ ?_ | rfl | exact h0.symm)
noncomputable def z5m (x : Nat) : Bool := (z6r x).isSome
noncomputable def z5a (x : Nat) : Bool := ((z6r x).getD default)
theorem zdz {x : Nat} {r : Bool} (h : z6r x = some r) : z5m x = true ∧ z5a x = r := by
  unfold z5m z5a
  rw [h]
  exact ⟨rfl, rfl⟩
noncomputable def z77 {R : Type} (x : Nat) (k_ : Bool → Option R) : Option R := (grd (z5p x) (br (z5b x) (k_ (fcmp BinOp.geq FloatKind.f32 x 0)) (k_ Bool.false)))
noncomputable def z75 (x : Nat) : Option (Bool) := z77 x (fun c0_ => some c0_)
theorem zd5 {R R' : Type} (o : Option R → Option R') (h0 : o none = none) (x : Nat) (k_ : Bool → Option R) : z77 x (fun c0_ => o (k_ c0_)) = o (z77 x k_) := by
  unfold z77
  repeat (first | refine grd_out h0 ?_ | refine br_out ?_ ?_ | rfl | exact h0.symm)
noncomputable def za5 (x : Nat) : Bool := (z75 x).isSome
noncomputable def z9q (x : Nat) : Bool := ((z75 x).getD default)
theorem zee {x : Nat} {r : Bool} (h : z75 x = some r) : za5 x = true ∧ z9q x = r := by
  unfold za5 z9q
  rw [h]
  exact ⟨rfl, rfl⟩
noncomputable def z5j {R : Type} (x : Nat) (k_ : Bool → Option R) : Option R := (grd (z5p x) (k_ (bnot (z5b x))))
noncomputable def z5e (x : Nat) : Option (Bool) := z5j x (fun c0_ => some c0_)
theorem zbr {R R' : Type} (o : Option R → Option R') (h0 : o none = none) (x : Nat) (k_ : Bool → Option R) : z5j x (fun c0_ => o (k_ c0_)) = o (z5j x k_) := by
  unfold z5j
  repeat (first | refine grd_out h0 ?_ | refine br_out ?_ ?_ | rfl | exact h0.symm)
noncomputable def z7w (x : Nat) : Bool := (z5e x).isSome
noncomputable def z7h (x : Nat) : Bool := ((z5e x).getD default)
theorem zcx {x : Nat} {r : Bool} (h : z5e x = some r) : z7w x = true ∧ z7h x = r := by
  unfold z7w z7h
  rw [h]
  exact ⟨rfl, rfl⟩
noncomputable def z46 {R : Type} (an : Nat) (q13 : Nat) (b0 : List Nat) (i : Int) (b1 : List Nat) (kn_ : Int → (List Nat) → Option R) (k0_ : Int → Bool → (List Nat) → Option R) : Option R := (br (ltI i (Int.ofNat an)) (grd (okIx i an) (grd (okIx i q13) (kn_ (addI IntKind.i64 i 1) (sF b1 (ixO 0 i 1) (gF b0 (ixO 0 i 1)))))) (k0_ i (ltI i (Int.ofNat an)) b1))
theorem zbd {R R' : Type} (o : Option R → Option R') (h0 : o none = none) (an : Nat) (q13 : Nat) (b0 : List Nat) (i : Int) (b1 : List Nat) (kn_ : Int → (List Nat) → Option R) (k0_ : Int → Bool → (List Nat) → Option R) : z46 an q13 b0 i b1 (fun i' b1' => o (kn_ i' b1')) (fun c0_ c1_ c2_ => o (k0_ c0_ c1_ c2_)) = o (z46 an q13 b0 i b1 kn_ k0_) := by
  unfold z46
  repeat (first | refine grd_out h0 ?_ | refine br_out ?_ ?_ | rfl | exact h0.symm)
noncomputable def z3r (an : Nat) (q13 : Nat) (b0 : List Nat) : Nat → Int → (List Nat) → Option ((Int × Bool × (List Nat)))
  | 0, _, _ => none
  | n + 1, i, b1 => z46 an q13 b0  i b1  (fun i' b1' => z3r an q13 b0 n i' b1') (fun c0_ c1_ c2_ => some (c0_, c1_, c2_))
theorem z9p (an : Nat) (q13 : Nat) (b0 : List Nat) (n : Nat) (i : Int) (b1 : List Nat) : z3r an q13 b0 (n + 1) i b1 = z46 an q13 b0  i b1  (fun i' b1' => z3r an q13 b0 n i' b1') (fun c0_ c1_ c2_ => some (c0_, c1_, c2_)) := rfl
noncomputable def z5o (an : Nat) (q13 : Nat) (b0 : List Nat) (i : Int) (b1 : List Nat) : Bool := (z3r an q13 b0 big i b1).isSome
noncomputable def z7n (an : Nat) (q13 : Nat) (b0 : List Nat) (i : Int) (b1 : List Nat) : Int := ((z3r an q13 b0 big i b1).getD default).1
noncomputable def z7m (an : Nat) (q13 : Nat) (b0 : List Nat) (i : Int) (b1 : List Nat) : Bool := ((z3r an q13 b0 big i b1).getD default).2.1
noncomputable def z4y (an : Nat) (q13 : Nat) (b0 : List Nat) (i : Int) (b1 : List Nat) : List Nat := ((z3r an q13 b0 big i b1).getD default).2.2
theorem zbq {an : Nat} {q13 : Nat} {b0 : List Nat} {i : Int} {b1 : List Nat} {m : Nat} {r : Int × Bool × (List Nat)} (hm : m = big) (h : z3r an q13 b0 m i b1 = some r) : z5o an q13 b0 i b1 = true ∧ z7n an q13 b0 i b1 = r.1 ∧ z7m an q13 b0 i b1 = r.2.1 ∧ z4y an q13 b0 i b1 = r.2.2 := by
  subst hm
  unfold z5o z7n z7m z4y
  rw [h]
  exact ⟨rfl, rfl, rfl, rfl⟩
noncomputable def z5r {R : Type} (a_n : Nat) (a : List Nat) (k_ : Nat → (List Nat) → Option R) : Option R := (grd (okMk (Int.ofNat a_n) (Int.ofNat a_n) 4) (grd (z5o a_n (toN (Int.ofNat a_n)) a 0 (rF (muN (toN (Int.ofNat a_n)) 1))) (k_ (toN (Int.ofNat a_n)) (z4y a_n (toN (Int.ofNat a_n)) a 0 (rF (muN (toN (Int.ofNat a_n)) 1))))))
noncomputable def z51 (a_n : Nat) (a : List Nat) : Option (Nat × (List Nat)) := z5r a_n a (fun c0_ c1_ => some (c0_, c1_))
theorem zbu {R R' : Type} (o : Option R → Option R') (h0 : o none = none) (a_n : Nat) (a : List Nat) (k_ : Nat → (List Nat) → Option R) : z5r a_n a (fun c0_ c1_ => o (k_ c0_ c1_)) = o (z5r a_n a k_) := by
  unfold z5r
  repeat (first | refine grd_out h0 ?_ | refine br_out ?_ ?_ | rfl | exact h0.symm)
noncomputable def z5y (a_n : Nat) (a : List Nat) : Bool := (z51 a_n a).isSome
noncomputable def z5d (a_n : Nat) (a : List Nat) : Nat := ((z51 a_n a).getD default).1
noncomputable def z5g (a_n : Nat) (a : List Nat) : List Nat := ((z51 a_n a).getD default).2
theorem za1 {a_n : Nat} {a : List Nat} {r : Nat × (List Nat)} (h : z51 a_n a = some r) : z5y a_n a = true ∧ z5d a_n a = r.1 ∧ z5g a_n a = r.2 := by
  unfold z5y z5d z5g
  rw [h]
  exact ⟨rfl, rfl, rfl⟩
noncomputable def z5t {R : Type} (x : Nat) (k_ : Bool → Option R) : Option R := (grd (za5 x) (k_ (bnot (z9q x))))
noncomputable def z5z (x : Nat) : Option (Bool) := z5t x (fun c0_ => some c0_)
theorem zbz {R R' : Type} (o : Option R → Option R') (h0 : o none = none) (x : Nat) (k_ : Bool → Option R) : z5t x (fun c0_ => o (k_ c0_)) = o (z5t x k_) := by
  unfold z5t
  repeat (first | refine grd_out h0 ?_ | refine br_out ?_ ?_ | rfl | exact h0.symm)
noncomputable def z8l (x : Nat) : Bool := (z5z x).isSome
noncomputable def z7y (x : Nat) : Bool := ((z5z x).getD default)
theorem zd9 {x : Nat} {r : Bool} (h : z5z x = some r) : z8l x = true ∧ z7y x = r := by
  unfold z8l z7y
  rw [h]
  exact ⟨rfl, rfl⟩
noncomputable def z48 {R : Type} (an : Nat) (bn : Nat) (b0 : List Nat) (b1 : List Nat) (i : Int) (kn_ : Int → Option R) (k0_ : Unit → Option R) (k1_ : Int → Bool → Option R) : Option R := (br (ltI i (Int.ofNat an)) (grd (okIx i an) (grd (okIx i bn) (grd (z7f (fcvV FloatKind.f32 FloatKind.f64 (gF b0 (ixO 0 i 1))) (fcvV FloatKind.f32 FloatKind.f64 (gF b1 (ixO 0 i 1)))) (br (bnot (z6v (fcvV FloatKind.f32 FloatKind.f64 (gF b0 (ixO 0 i 1))) (fcvV FloatKind.f32 FloatKind.f64 (gF b1 (ixO 0 i 1))))) (k0_ ()) (kn_ (addI IntKind.i64 i 1)))))) (k1_ i (ltI i (Int.ofNat an))))
theorem zbf {R R' : Type} (o : Option R → Option R') (h0 : o none = none) (an : Nat) (bn : Nat) (b0 : List Nat) (b1 : List Nat) (i : Int) (kn_ : Int → Option R) (k0_ : Unit → Option R) (k1_ : Int → Bool → Option R) : z48 an bn b0 b1 i (fun i' => o (kn_ i')) (fun _ => o (k0_ ())) (fun c0_ c1_ => o (k1_ c0_ c1_)) = o (z48 an bn b0 b1 i kn_ k0_ k1_) := by
  unfold z48
  repeat (first | refine grd_out h0 ?_ | refine br_out ?_ ?_ | rfl | exact h0.symm)
noncomputable def z3q (an : Nat) (bn : Nat) (b0 : List Nat) (b1 : List Nat) : Nat → Int → Option ((Unit) ⊕ (Int × Bool))
  | 0, _ => none
  | n + 1, i => z48 an bn b0 b1  i  (fun i' => z3q an bn b0 b1 n i') (fun _ => some (Sum.inl ())) (fun c0_ c1_ => some (Sum.inr (c0_, c1_)))
theorem z9s (an : Nat) (bn : Nat) (b0 : List Nat) (b1 : List Nat) (n : Nat) (i : Int) : z3q an bn b0 b1 (n + 1) i = z48 an bn b0 b1  i  (fun i' => z3q an bn b0 b1 n i') (fun _ => some (Sum.inl ())) (fun c0_ c1_ => some (Sum.inr (c0_, c1_))) := rfl
noncomputable def z72 (an : Nat) (bn : Nat) (b0 : List Nat) (b1 : List Nat) (i : Int) : Bool := (z3q an bn b0 b1 big i).isSome
noncomputable def z6s (an : Nat) (bn : Nat) (b0 : List Nat) (b1 : List Nat) (i : Int) : Bool := oL (z3q an bn b0 b1 big i)
noncomputable def z7p (an : Nat) (bn : Nat) (b0 : List Nat) (b1 : List Nat) (i : Int) : Int := ((tR (z3q an bn b0 b1 big i)).getD default).1
noncomputable def z7o (an : Nat) (bn : Nat) (b0 : List Nat) (b1 : List Nat) (i : Int) : Bool := ((tR (z3q an bn b0 b1 big i)).getD default).2
theorem zbp {an : Nat} {bn : Nat} {b0 : List Nat} {b1 : List Nat} {i : Int} {m : Nat} {r : Int × Bool} (hm : m = big) (h : z3q an bn b0 b1 m i = some (Sum.inr r)) : z72 an bn b0 b1 i = true ∧ z6s an bn b0 b1 i = false ∧ z7p an bn b0 b1 i = r.1 ∧ z7o an bn b0 b1 i = r.2 := by
  subst hm
  unfold z72 z6s z7p z7o
  rw [h]
  exact ⟨rfl, rfl, rfl, rfl⟩
noncomputable def z6a {R : Type} (q0f : Nat) (q0n : List Nat) (q0i : Nat) (q0o : List Nat) (q0l : Nat) (q0p : List Nat) (k_ : Nat → Nat → Nat → (List Nat) → (List Nat) → (List Nat) → Option R) : Option R := (grd (z5y q0f (pF q0n 0 (muN q0f 1))) (grd (z5y q0i (pF q0o 0 (muN q0i 1))) (grd (z5y q0l (pF q0p 0 (muN q0l 1))) (k_ (z5d q0f (pF q0n 0 (muN q0f 1))) (z5d q0i (pF q0o 0 (muN q0i 1))) (z5d q0l (pF q0p 0 (muN q0l 1))) (z5g q0f (pF q0n 0 (muN q0f 1))) (z5g q0i (pF q0o 0 (muN q0i 1))) (z5g q0l (pF q0p 0 (muN q0l 1)))))))
noncomputable def z4c (q0f : Nat) (q0n : List Nat) (q0i : Nat) (q0o : List Nat) (q0l : Nat) (q0p : List Nat) : Option (Nat × Nat × Nat × (List Nat) × (List Nat) × (List Nat)) := z6a q0f q0n q0i q0o q0l q0p (fun c0_ c1_ c2_ c3_ c4_ c5_ => some (c0_, c1_, c2_, c3_, c4_, c5_))
theorem zcb {R R' : Type} (o : Option R → Option R') (h0 : o none = none) (q0f : Nat) (q0n : List Nat) (q0i : Nat) (q0o : List Nat) (q0l : Nat) (q0p : List Nat) (k_ : Nat → Nat → Nat → (List Nat) → (List Nat) → (List Nat) → Option R) : z6a q0f q0n q0i q0o q0l q0p (fun c0_ c1_ c2_ c3_ c4_ c5_ => o (k_ c0_ c1_ c2_ c3_ c4_ c5_)) = o (z6a q0f q0n q0i q0o q0l q0p k_) := by
  unfold z6a
  repeat (first | refine grd_out h0 ?_ | refine br_out ?_ ?_ | rfl | exact h0.symm)
noncomputable def z5c (q0f : Nat) (q0n : List Nat) (q0i : Nat) (q0o : List Nat) (q0l : Nat) (q0p : List Nat) : Bool := (z4c q0f q0n q0i q0o q0l q0p).isSome
noncomputable def z2f (q0f : Nat) (q0n : List Nat) (q0i : Nat) (q0o : List Nat) (q0l : Nat) (q0p : List Nat) : Nat := ((z4c q0f q0n q0i q0o q0l q0p).getD default).1
noncomputable def z2h (q0f : Nat) (q0n : List Nat) (q0i : Nat) (q0o : List Nat) (q0l : Nat) (q0p : List Nat) : Nat := ((z4c q0f q0n q0i q0o q0l q0p).getD default).2.1
noncomputable def z2e (q0f : Nat) (q0n : List Nat) (q0i : Nat) (q0o : List Nat) (q0l : Nat) (q0p : List Nat) : Nat := ((z4c q0f q0n q0i q0o q0l q0p).getD default).2.2.1
noncomputable def z3f (q0f : Nat) (q0n : List Nat) (q0i : Nat) (q0o : List Nat) (q0l : Nat) (q0p : List Nat) : List Nat := ((z4c q0f q0n q0i q0o q0l q0p).getD default).2.2.2.1
noncomputable def z3d (q0f : Nat) (q0n : List Nat) (q0i : Nat) (q0o : List Nat) (q0l : Nat) (q0p : List Nat) : List Nat := ((z4c q0f q0n q0i q0o q0l q0p).getD default).2.2.2.2.1
noncomputable def z3e (q0f : Nat) (q0n : List Nat) (q0i : Nat) (q0o : List Nat) (q0l : Nat) (q0p : List Nat) : List Nat := ((z4c q0f q0n q0i q0o q0l q0p).getD default).2.2.2.2.2
theorem zdp {q0f : Nat} {q0n : List Nat} {q0i : Nat} {q0o : List Nat} {q0l : Nat} {q0p : List Nat} {r : Nat × Nat × Nat × (List Nat) × (List Nat) × (List Nat)} (h : z4c q0f q0n q0i q0o q0l q0p = some r) : z5c q0f q0n q0i q0o q0l q0p = true ∧ z2f q0f q0n q0i q0o q0l q0p = r.1 ∧ z2h q0f q0n q0i q0o q0l q0p = r.2.1 ∧ z2e q0f q0n q0i q0o q0l q0p = r.2.2.1 ∧ z3f q0f q0n q0i q0o q0l q0p = r.2.2.2.1 ∧ z3d q0f q0n q0i q0o q0l q0p = r.2.2.2.2.1 ∧ z3e q0f q0n q0i q0o q0l q0p = r.2.2.2.2.2 := by
  unfold z5c z2f z2h z2e z3f z3d z3e
  rw [h]
  exact ⟨rfl, rfl, rfl, rfl, rfl, rfl, rfl⟩
noncomputable def z5v {R : Type} (a_n : Nat) (a : List Nat) (b_n : Nat) (b : List Nat) (k_ : Bool → Option R) : Option R := (br (neI (Int.ofNat a_n) (Int.ofNat b_n)) (k_ Bool.false) (grd (z72 a_n b_n a b 0) (br (z6s a_n b_n a b 0) (k_ Bool.false) (k_ Bool.true))))
noncomputable def z5x (a_n : Nat) (a : List Nat) (b_n : Nat) (b : List Nat) : Option (Bool) := z5v a_n a b_n b (fun c0_ => some c0_)
theorem zbv {R R' : Type} (o : Option R → Option R') (h0 : o none = none) (a_n : Nat) (a : List Nat) (b_n : Nat) (b : List Nat) (k_ : Bool → Option R) : z5v a_n a b_n b (fun c0_ => o (k_ c0_)) = o (z5v a_n a b_n b k_) := by
  unfold z5v
  repeat (first | refine grd_out h0 ?_ | refine br_out ?_ ?_ | rfl | exact h0.symm)
noncomputable def z5w (a_n : Nat) (a : List Nat) (b_n : Nat) (b : List Nat) : Bool := (z5x a_n a b_n b).isSome
noncomputable def z5h (a_n : Nat) (a : List Nat) (b_n : Nat) (b : List Nat) : Bool := ((z5x a_n a b_n b).getD default)
theorem z9u {a_n : Nat} {a : List Nat} {b_n : Nat} {b : List Nat} {r : Bool} (h : z5x a_n a b_n b = some r) : z5w a_n a b_n b = true ∧ z5h a_n a b_n b = r := by
  unfold z5w z5h
  rw [h]
  exact ⟨rfl, rfl⟩
noncomputable def z4s {R : Type} (t3 : Int) (b0 : List Nat) (b1 : List Nat) (b2 : List Nat) (q0m : Nat) (q0r : Nat) (q0s : Nat) (t4 : Int) (kn_ : Int → Option R) (k0_ : Unit → Option R) (k1_ : Int → Bool → Option R) : Option R := (br (ltI t4 t3) (grd (okIx t4 q0m) (br (fcmp BinOp.geq FloatKind.f32 (gF b0 (ixO 0 t4 1)) 3204448256) (grd (okIx t4 q0m) (br (bnot (fcmp BinOp.leq FloatKind.f32 (gF b0 (ixO 0 t4 1)) 1056964608)) (k0_ ()) (br (ltI 0 t4) (grd (okIx t4 q0m) (grd (okIx (subI IntKind.i64 t4 1) q0m) (br (fcmp BinOp.leq FloatKind.f32 (gF b0 (ixO 0 t4 1)) (gF b0 (ixO 0 (subI IntKind.i64 t4 1) 1))) (k0_ ()) (grd (okIx t4 q0r) (grd (z4j (gF b1 (ixO 0 t4 1))) (br (bnot (z4f (gF b1 (ixO 0 t4 1)))) (k0_ ()) (grd (okIx t4 q0s) (grd (z5m (gF b2 (ixO 0 t4 1))) (br (bnot (z5a (gF b2 (ixO 0 t4 1)))) (k0_ ()) (kn_ (addI IntKind.i64 t4 1))))))))))) (grd (okIx t4 q0r) (grd (z4j (gF b1 (ixO 0 t4 1))) (br (bnot (z4f (gF b1 (ixO 0 t4 1)))) (k0_ ()) (grd (okIx t4 q0s) (grd (z5m (gF b2 (ixO 0 t4 1))) (br (bnot (z5a (gF b2 (ixO 0 t4 1)))) (k0_ ()) (kn_ (addI IntKind.i64 t4 1))))))))))) (br (bnot Bool.false) (k0_ ()) (br (ltI 0 t4) (grd (okIx t4 q0m) (grd (okIx (subI IntKind.i64 t4 1) q0m) (br (fcmp BinOp.leq FloatKind.f32 (gF b0 (ixO 0 t4 1)) (gF b0 (ixO 0 (subI IntKind.i64 t4 1) 1))) (k0_ ()) (grd (okIx t4 q0r) (grd (z4j (gF b1 (ixO 0 t4 1))) (br (bnot (z4f (gF b1 (ixO 0 t4 1)))) (k0_ ()) (grd (okIx t4 q0s) (grd (z5m (gF b2 (ixO 0 t4 1))) (br (bnot (z5a (gF b2 (ixO 0 t4 1)))) (k0_ ()) (kn_ (addI IntKind.i64 t4 1))))))))))) (grd (okIx t4 q0r) (grd (z4j (gF b1 (ixO 0 t4 1))) (br (bnot (z4f (gF b1 (ixO 0 t4 1)))) (k0_ ()) (grd (okIx t4 q0s) (grd (z5m (gF b2 (ixO 0 t4 1))) (br (bnot (z5a (gF b2 (ixO 0 t4 1)))) (k0_ ()) (kn_ (addI IntKind.i64 t4 1)))))))))))) (k1_ t4 (ltI t4 t3)))
theorem zct {R R' : Type} (o : Option R → Option R') (h0 : o none = none) (t3 : Int) (b0 : List Nat) (b1 : List Nat) (b2 : List Nat) (q0m : Nat) (q0r : Nat) (q0s : Nat) (t4 : Int) (kn_ : Int → Option R) (k0_ : Unit → Option R) (k1_ : Int → Bool → Option R) : z4s t3 b0 b1 b2 q0m q0r q0s t4 (fun t4' => o (kn_ t4')) (fun _ => o (k0_ ())) (fun c0_ c1_ => o (k1_ c0_ c1_)) = o (z4s t3 b0 b1 b2 q0m q0r q0s t4 kn_ k0_ k1_) := by
  unfold z4s
  repeat (first | refine grd_out h0 ?_ | refine br_out ?_ ?_ | rfl | exact h0.symm)
noncomputable def z43 (t3 : Int) (b0 : List Nat) (b1 : List Nat) (b2 : List Nat) (q0m : Nat) (q0r : Nat) (q0s : Nat) : Nat → Int → Option ((Unit) ⊕ (Int × Bool))
  | 0, _ => none
  | n + 1, t4 => z4s t3 b0 b1 b2 q0m q0r q0s  t4  (fun t4' => z43 t3 b0 b1 b2 q0m q0r q0s n t4') (fun _ => some (Sum.inl ())) (fun c0_ c1_ => some (Sum.inr (c0_, c1_)))
theorem zan (t3 : Int) (b0 : List Nat) (b1 : List Nat) (b2 : List Nat) (q0m : Nat) (q0r : Nat) (q0s : Nat) (n : Nat) (t4 : Int) : z43 t3 b0 b1 b2 q0m q0r q0s (n + 1) t4 = z4s t3 b0 b1 b2 q0m q0r q0s  t4  (fun t4' => z43 t3 b0 b1 b2 q0m q0r q0s n t4') (fun _ => some (Sum.inl ())) (fun c0_ c1_ => some (Sum.inr (c0_, c1_))) := rfl
noncomputable def z52 (t3 : Int) (b0 : List Nat) (b1 : List Nat) (b2 : List Nat) (q0m : Nat) (q0r : Nat) (q0s : Nat) (t4 : Int) : Bool := (z43 t3 b0 b1 b2 q0m q0r q0s big t4).isSome
noncomputable def z4t (t3 : Int) (b0 : List Nat) (b1 : List Nat) (b2 : List Nat) (q0m : Nat) (q0r : Nat) (q0s : Nat) (t4 : Int) : Bool := oL (z43 t3 b0 b1 b2 q0m q0r q0s big t4)
noncomputable def z9y (t3 : Int) (b0 : List Nat) (b1 : List Nat) (b2 : List Nat) (q0m : Nat) (q0r : Nat) (q0s : Nat) (t4 : Int) : Int := ((tR (z43 t3 b0 b1 b2 q0m q0r q0s big t4)).getD default).1
noncomputable def za2 (t3 : Int) (b0 : List Nat) (b1 : List Nat) (b2 : List Nat) (q0m : Nat) (q0r : Nat) (q0s : Nat) (t4 : Int) : Bool := ((tR (z43 t3 b0 b1 b2 q0m q0r q0s big t4)).getD default).2
theorem zdv {t3 : Int} {b0 : List Nat} {b1 : List Nat} {b2 : List Nat} {q0m : Nat} {q0r : Nat} {q0s : Nat} {t4 : Int} {m : Nat} {r : Unit} (hm : m = big) (h : z43 t3 b0 b1 b2 q0m q0r q0s m t4 = some (Sum.inl r)) : z52 t3 b0 b1 b2 q0m q0r q0s t4 = true ∧ z4t t3 b0 b1 b2 q0m q0r q0s t4 = true := by
  subst hm
  unfold z52 z4t
  rw [h]
  exact ⟨rfl, rfl⟩
theorem zdl {t3 : Int} {b0 : List Nat} {b1 : List Nat} {b2 : List Nat} {q0m : Nat} {q0r : Nat} {q0s : Nat} {t4 : Int} {m : Nat} {r : Int × Bool} (hm : m = big) (h : z43 t3 b0 b1 b2 q0m q0r q0s m t4 = some (Sum.inr r)) : z52 t3 b0 b1 b2 q0m q0r q0s t4 = true ∧ z4t t3 b0 b1 b2 q0m q0r q0s t4 = false ∧ z9y t3 b0 b1 b2 q0m q0r q0s t4 = r.1 ∧ za2 t3 b0 b1 b2 q0m q0r q0s t4 = r.2 := by
  subst hm
  unfold z52 z4t z9y za2
  rw [h]
  exact ⟨rfl, rfl, rfl, rfl⟩
noncomputable def z2s {R : Type} (sn : Nat) (t7 : Int) (b0 : List Nat) (t8 : Int) (kn_ : Int → Option R) (k0_ : Int → Option R) (k1_ : Int → Bool → Option R) : Option R := (br (ltI t8 t7) (grd (okIx t8 sn) (grd (z7w (gF b0 (ixO 0 t8 1))) (br (z7h (gF b0 (ixO 0 t8 1))) (k0_ t8) (kn_ (addI IntKind.i64 t8 1))))) (k1_ t8 (ltI t8 t7)))
theorem z7l {R R' : Type} (o : Option R → Option R') (h0 : o none = none) (sn : Nat) (t7 : Int) (b0 : List Nat) (t8 : Int) (kn_ : Int → Option R) (k0_ : Int → Option R) (k1_ : Int → Bool → Option R) : z2s sn t7 b0 t8 (fun t8' => o (kn_ t8')) (fun c0_ => o (k0_ c0_)) (fun c0_ c1_ => o (k1_ c0_ c1_)) = o (z2s sn t7 b0 t8 kn_ k0_ k1_) := by
  unfold z2s
  repeat (first | refine grd_out h0 ?_ | refine br_out ?_ ?_ | rfl | exact h0.symm)
noncomputable def z18 (sn : Nat) (t7 : Int) (b0 : List Nat) : Nat → Int → Option ((Int) ⊕ (Int × Bool))
  | 0, _ => none
  | n + 1, t8 => z2s sn t7 b0  t8  (fun t8' => z18 sn t7 b0 n t8') (fun c0_ => some (Sum.inl c0_)) (fun c0_ c1_ => some (Sum.inr (c0_, c1_)))
theorem z4u (sn : Nat) (t7 : Int) (b0 : List Nat) (n : Nat) (t8 : Int) : z18 sn t7 b0 (n + 1) t8 = z2s sn t7 b0  t8  (fun t8' => z18 sn t7 b0 n t8') (fun c0_ => some (Sum.inl c0_)) (fun c0_ c1_ => some (Sum.inr (c0_, c1_))) := rfl
noncomputable def z39 (sn : Nat) (t7 : Int) (b0 : List Nat) (t8 : Int) : Bool := (z18 sn t7 b0 big t8).isSome
noncomputable def z38 (sn : Nat) (t7 : Int) (b0 : List Nat) (t8 : Int) : Bool := oL (z18 sn t7 b0 big t8)
noncomputable def z3w (sn : Nat) (t7 : Int) (b0 : List Nat) (t8 : Int) : Int := ((tL (z18 sn t7 b0 big t8)).getD default)
noncomputable def z4h (sn : Nat) (t7 : Int) (b0 : List Nat) (t8 : Int) : Int := ((tR (z18 sn t7 b0 big t8)).getD default).1
noncomputable def z4i (sn : Nat) (t7 : Int) (b0 : List Nat) (t8 : Int) : Bool := ((tR (z18 sn t7 b0 big t8)).getD default).2
theorem z88 {sn : Nat} {t7 : Int} {b0 : List Nat} {t8 : Int} {m : Nat} {r : Int} (hm : m = big) (h : z18 sn t7 b0 m t8 = some (Sum.inl r)) : z39 sn t7 b0 t8 = true ∧ z38 sn t7 b0 t8 = true ∧ z3w sn t7 b0 t8 = r := by
  subst hm
  unfold z39 z38 z3w
  rw [h]
  exact ⟨rfl, rfl, rfl⟩
theorem z87 {sn : Nat} {t7 : Int} {b0 : List Nat} {t8 : Int} {m : Nat} {r : Int × Bool} (hm : m = big) (h : z18 sn t7 b0 m t8 = some (Sum.inr r)) : z39 sn t7 b0 t8 = true ∧ z38 sn t7 b0 t8 = false ∧ z4h sn t7 b0 t8 = r.1 ∧ z4i sn t7 b0 t8 = r.2 := by
  subst hm
  unfold z39 z38 z4h z4i
  rw [h]
  exact ⟨rfl, rfl, rfl, rfl⟩
noncomputable def z69 {R : Type} (q0f : Nat) (q0n : List Nat) (q0i : Nat) (q0o : List Nat) (q0l : Nat) (q0p : List Nat) (q0u : Nat) (q0y : List Nat) (q0v : Nat) (q11 : List Nat) (q0w : Nat) (q12 : List Nat) (k_ : Bool → Option R) : Option R := (grd (z5w q0f (pF q0n 0 (muN q0f 1)) q0u (pF q0y 0 (muN q0u 1))) (br (bnot (z5h q0f (pF q0n 0 (muN q0f 1)) q0u (pF q0y 0 (muN q0u 1)))) (k_ Bool.false) (grd (z5w q0i (pF q0o 0 (muN q0i 1)) q0v (pF q11 0 (muN q0v 1))) (br (bnot (z5h q0i (pF q0o 0 (muN q0i 1)) q0v (pF q11 0 (muN q0v 1)))) (k_ Bool.false) (grd (z5w q0l (pF q0p 0 (muN q0l 1)) q0w (pF q12 0 (muN q0w 1))) (br (bnot (z5h q0l (pF q0p 0 (muN q0l 1)) q0w (pF q12 0 (muN q0w 1)))) (k_ Bool.false) (k_ Bool.true)))))))
noncomputable def z6e (q0f : Nat) (q0n : List Nat) (q0i : Nat) (q0o : List Nat) (q0l : Nat) (q0p : List Nat) (q0u : Nat) (q0y : List Nat) (q0v : Nat) (q11 : List Nat) (q0w : Nat) (q12 : List Nat) : Option (Bool) := z69 q0f q0n q0i q0o q0l q0p q0u q0y q0v q11 q0w q12 (fun c0_ => some c0_)
theorem zcl {R R' : Type} (o : Option R → Option R') (h0 : o none = none) (q0f : Nat) (q0n : List Nat) (q0i : Nat) (q0o : List Nat) (q0l : Nat) (q0p : List Nat) (q0u : Nat) (q0y : List Nat) (q0v : Nat) (q11 : List Nat) (q0w : Nat) (q12 : List Nat) (k_ : Bool → Option R) : z69 q0f q0n q0i q0o q0l q0p q0u q0y q0v q11 q0w q12 (fun c0_ => o (k_ c0_)) = o (z69 q0f q0n q0i q0o q0l q0p q0u q0y q0v q11 q0w q12 k_) := by
  unfold z69
  repeat (first | refine grd_out h0 ?_ | refine br_out ?_ ?_ | rfl | exact h0.symm)
noncomputable def z7e (q0f : Nat) (q0n : List Nat) (q0i : Nat) (q0o : List Nat) (q0l : Nat) (q0p : List Nat) (q0u : Nat) (q0y : List Nat) (q0v : Nat) (q11 : List Nat) (q0w : Nat) (q12 : List Nat) : Bool := (z6e q0f q0n q0i q0o q0l q0p q0u q0y q0v q11 q0w q12).isSome
noncomputable def z6x (q0f : Nat) (q0n : List Nat) (q0i : Nat) (q0o : List Nat) (q0l : Nat) (q0p : List Nat) (q0u : Nat) (q0y : List Nat) (q0v : Nat) (q11 : List Nat) (q0w : Nat) (q12 : List Nat) : Bool := ((z6e q0f q0n q0i q0o q0l q0p q0u q0y q0v q11 q0w q12).getD default)
theorem zdq {q0f : Nat} {q0n : List Nat} {q0i : Nat} {q0o : List Nat} {q0l : Nat} {q0p : List Nat} {q0u : Nat} {q0y : List Nat} {q0v : Nat} {q11 : List Nat} {q0w : Nat} {q12 : List Nat} {r : Bool} (h : z6e q0f q0n q0i q0o q0l q0p q0u q0y q0v q11 q0w q12 = some r) : z7e q0f q0n q0i q0o q0l q0p q0u q0y q0v q11 q0w q12 = true ∧ z6x q0f q0n q0i q0o q0l q0p q0u q0y q0v q11 q0w q12 = r := by
  unfold z7e z6x
  rw [h]
  exact ⟨rfl, rfl⟩
noncomputable def z8v {R : Type} (q00 : Nat) (q01 : List Nat) (q09 : Nat) (q0b : List Nat) (q08 : Nat) (q0a : List Nat) (k_ : Bool → Option R) : Option R := (br (ltI (Int.ofNat q00) 2) (k_ Bool.false) (br (ltI 24 (Int.ofNat q00)) (k_ Bool.false) (br (neI (Int.ofNat q09) (Int.ofNat q00)) (k_ Bool.false) (br (neI (Int.ofNat q08) (Int.ofNat q00)) (k_ Bool.false) (grd (z52 (Int.ofNat q00) q01 q0b q0a q00 q09 q08 0) (br (z4t (Int.ofNat q00) q01 q0b q0a q00 q09 q08 0) (k_ Bool.false) (k_ Bool.true)))))))
noncomputable def z8t (q00 : Nat) (q01 : List Nat) (q09 : Nat) (q0b : List Nat) (q08 : Nat) (q0a : List Nat) : Option (Bool) := z8v q00 q01 q09 q0b q08 q0a (fun c0_ => some c0_)
theorem ze4 {R R' : Type} (o : Option R → Option R') (h0 : o none = none) (q00 : Nat) (q01 : List Nat) (q09 : Nat) (q0b : List Nat) (q08 : Nat) (q0a : List Nat) (k_ : Bool → Option R) : z8v q00 q01 q09 q0b q08 q0a (fun c0_ => o (k_ c0_)) = o (z8v q00 q01 q09 q0b q08 q0a k_) := by
  unfold z8v
  repeat (first | refine grd_out h0 ?_ | refine br_out ?_ ?_ | rfl | exact h0.symm)
noncomputable def zam (q00 : Nat) (q01 : List Nat) (q09 : Nat) (q0b : List Nat) (q08 : Nat) (q0a : List Nat) : Bool := (z8t q00 q01 q09 q0b q08 q0a).isSome
noncomputable def zag (q00 : Nat) (q01 : List Nat) (q09 : Nat) (q0b : List Nat) (q08 : Nat) (q0a : List Nat) : Bool := ((z8t q00 q01 q09 q0b q08 q0a).getD default)
theorem zf1 {q00 : Nat} {q01 : List Nat} {q09 : Nat} {q0b : List Nat} {q08 : Nat} {q0a : List Nat} {r : Bool} (h : z8t q00 q01 q09 q0b q08 q0a = some r) : zam q00 q01 q09 q0b q08 q0a = true ∧ zag q00 q01 q09 q0b q08 q0a = r := by
  unfold zam zag
  rw [h]
  exact ⟨rfl, rfl⟩
noncomputable def z3k {R : Type} (s_n : Nat) (s : List Nat) (k_ : Int → Option R) : Option R := (grd (z39 s_n (Int.ofNat s_n) s 0) (br (z38 s_n (Int.ofNat s_n) s 0) (k_ (z3w s_n (Int.ofNat s_n) s 0)) (k_ (Int.negSucc 0))))
noncomputable def z3l (s_n : Nat) (s : List Nat) : Option (Int) := z3k s_n s (fun c0_ => some c0_)
theorem z8b {R R' : Type} (o : Option R → Option R') (h0 : o none = none) (s_n : Nat) (s : List Nat) (k_ : Int → Option R) : z3k s_n s (fun c0_ => o (k_ c0_)) = o (z3k s_n s k_) := by
  unfold z3k
  repeat (first | refine grd_out h0 ?_ | refine br_out ?_ ?_ | rfl | exact h0.symm)
noncomputable def z4a (s_n : Nat) (s : List Nat) : Bool := (z3l s_n s).isSome
noncomputable def z47 (s_n : Nat) (s : List Nat) : Int := ((z3l s_n s).getD default)
theorem z9b {s_n : Nat} {s : List Nat} {r : Int} (h : z3l s_n s = some r) : z4a s_n s = true ∧ z47 s_n s = r := by
  unfold z4a z47
  rw [h]
  exact ⟨rfl, rfl⟩
noncomputable def z2t {R : Type} (sn : Nat) (t7 : Int) (b0 : List Nat) (t8 : Int) (kn_ : Int → Option R) (k0_ : Int → Option R) (k1_ : Int → Bool → Option R) : Option R := (br (ltI t8 t7) (grd (okIx t8 sn) (grd (z8l (gF b0 (ixO 0 t8 1))) (br (z7y (gF b0 (ixO 0 t8 1))) (k0_ t8) (kn_ (addI IntKind.i64 t8 1))))) (k1_ t8 (ltI t8 t7)))
theorem z7x {R R' : Type} (o : Option R → Option R') (h0 : o none = none) (sn : Nat) (t7 : Int) (b0 : List Nat) (t8 : Int) (kn_ : Int → Option R) (k0_ : Int → Option R) (k1_ : Int → Bool → Option R) : z2t sn t7 b0 t8 (fun t8' => o (kn_ t8')) (fun c0_ => o (k0_ c0_)) (fun c0_ c1_ => o (k1_ c0_ c1_)) = o (z2t sn t7 b0 t8 kn_ k0_ k1_) := by
  unfold z2t
  repeat (first | refine grd_out h0 ?_ | refine br_out ?_ ?_ | rfl | exact h0.symm)
noncomputable def z1e (sn : Nat) (t7 : Int) (b0 : List Nat) : Nat → Int → Option ((Int) ⊕ (Int × Bool))
  | 0, _ => none
  | n + 1, t8 => z2t sn t7 b0  t8  (fun t8' => z1e sn t7 b0 n t8') (fun c0_ => some (Sum.inl c0_)) (fun c0_ c1_ => some (Sum.inr (c0_, c1_)))
theorem z4z (sn : Nat) (t7 : Int) (b0 : List Nat) (n : Nat) (t8 : Int) : z1e sn t7 b0 (n + 1) t8 = z2t sn t7 b0  t8  (fun t8' => z1e sn t7 b0 n t8') (fun c0_ => some (Sum.inl c0_)) (fun c0_ c1_ => some (Sum.inr (c0_, c1_))) := rfl
noncomputable def z3h (sn : Nat) (t7 : Int) (b0 : List Nat) (t8 : Int) : Bool := (z1e sn t7 b0 big t8).isSome
noncomputable def z3c (sn : Nat) (t7 : Int) (b0 : List Nat) (t8 : Int) : Bool := oL (z1e sn t7 b0 big t8)
noncomputable def z3z (sn : Nat) (t7 : Int) (b0 : List Nat) (t8 : Int) : Int := ((tL (z1e sn t7 b0 big t8)).getD default)
noncomputable def z4l (sn : Nat) (t7 : Int) (b0 : List Nat) (t8 : Int) : Int := ((tR (z1e sn t7 b0 big t8)).getD default).1
noncomputable def z4k (sn : Nat) (t7 : Int) (b0 : List Nat) (t8 : Int) : Bool := ((tR (z1e sn t7 b0 big t8)).getD default).2
theorem z8d {sn : Nat} {t7 : Int} {b0 : List Nat} {t8 : Int} {m : Nat} {r : Int} (hm : m = big) (h : z1e sn t7 b0 m t8 = some (Sum.inl r)) : z3h sn t7 b0 t8 = true ∧ z3c sn t7 b0 t8 = true ∧ z3z sn t7 b0 t8 = r := by
  subst hm
  unfold z3h z3c z3z
  rw [h]
  exact ⟨rfl, rfl, rfl⟩
theorem z89 {sn : Nat} {t7 : Int} {b0 : List Nat} {t8 : Int} {m : Nat} {r : Int × Bool} (hm : m = big) (h : z1e sn t7 b0 m t8 = some (Sum.inr r)) : z3h sn t7 b0 t8 = true ∧ z3c sn t7 b0 t8 = false ∧ z4l sn t7 b0 t8 = r.1 ∧ z4k sn t7 b0 t8 = r.2 := by
  subst hm
  unfold z3h z3c z4l z4k
  rw [h]
  exact ⟨rfl, rfl, rfl, rfl⟩
noncomputable def z7u {R : Type} (q03 : Nat) (q0c : List Nat) (q04 : Nat) (q0d : List Nat) (q07 : Nat) (q0e : List Nat) (q0h : Nat) (k_ : Bool → Option R) : Option R := (grd (zam q03 (pF q0c 0 (muN q03 1)) q04 (pF q0d 0 (muN q04 1)) q07 (pF q0e 0 (muN q07 1))) (br (zag q03 (pF q0c 0 (muN q03 1)) q04 (pF q0d 0 (muN q04 1)) q07 (pF q0e 0 (muN q07 1))) (grd (z4j q0h) (k_ (z4f q0h))) (k_ Bool.false)))
noncomputable def z7s (q03 : Nat) (q0c : List Nat) (q04 : Nat) (q0d : List Nat) (q07 : Nat) (q0e : List Nat) (q0h : Nat) : Option (Bool) := z7u q03 q0c q04 q0d q07 q0e q0h (fun c0_ => some c0_)
theorem zdk {R R' : Type} (o : Option R → Option R') (h0 : o none = none) (q03 : Nat) (q0c : List Nat) (q04 : Nat) (q0d : List Nat) (q07 : Nat) (q0e : List Nat) (q0h : Nat) (k_ : Bool → Option R) : z7u q03 q0c q04 q0d q07 q0e q0h (fun c0_ => o (k_ c0_)) = o (z7u q03 q0c q04 q0d q07 q0e q0h k_) := by
  unfold z7u
  repeat (first | refine grd_out h0 ?_ | refine br_out ?_ ?_ | rfl | exact h0.symm)
noncomputable def zaj (q03 : Nat) (q0c : List Nat) (q04 : Nat) (q0d : List Nat) (q07 : Nat) (q0e : List Nat) (q0h : Nat) : Bool := (z7s q03 q0c q04 q0d q07 q0e q0h).isSome
noncomputable def za9 (q03 : Nat) (q0c : List Nat) (q04 : Nat) (q0d : List Nat) (q07 : Nat) (q0e : List Nat) (q0h : Nat) : Bool := ((z7s q03 q0c q04 q0d q07 q0e q0h).getD default)
theorem zev {q03 : Nat} {q0c : List Nat} {q04 : Nat} {q0d : List Nat} {q07 : Nat} {q0e : List Nat} {q0h : Nat} {r : Bool} (h : z7s q03 q0c q04 q0d q07 q0e q0h = some r) : zaj q03 q0c q04 q0d q07 q0e q0h = true ∧ za9 q03 q0c q04 q0d q07 q0e q0h = r := by
  unfold zaj za9
  rw [h]
  exact ⟨rfl, rfl⟩
noncomputable def z3o {R : Type} (s_n : Nat) (s : List Nat) (k_ : Int → Option R) : Option R := (grd (z3h s_n (Int.ofNat s_n) s 0) (br (z3c s_n (Int.ofNat s_n) s 0) (k_ (z3z s_n (Int.ofNat s_n) s 0)) (k_ (Int.negSucc 0))))
noncomputable def z3n (s_n : Nat) (s : List Nat) : Option (Int) := z3o s_n s (fun c0_ => some c0_)
theorem z91 {R R' : Type} (o : Option R → Option R') (h0 : o none = none) (s_n : Nat) (s : List Nat) (k_ : Int → Option R) : z3o s_n s (fun c0_ => o (k_ c0_)) = o (z3o s_n s k_) := by
  unfold z3o
  repeat (first | refine grd_out h0 ?_ | refine br_out ?_ ?_ | rfl | exact h0.symm)
noncomputable def z4e (s_n : Nat) (s : List Nat) : Bool := (z3n s_n s).isSome
noncomputable def z49 (s_n : Nat) (s : List Nat) : Int := ((z3n s_n s).getD default)
theorem z9i {s_n : Nat} {s : List Nat} {r : Int} (h : z3n s_n s = some r) : z4e s_n s = true ∧ z49 s_n s = r := by
  unfold z4e z49
  rw [h]
  exact ⟨rfl, rfl⟩
noncomputable def z8q {R : Type} (x : Nat) (k_ : Nat → Option R) : Option R := (grd (bnot (nanQ FloatKind.f64 x)) (k_ (fint Ieee.Toward.down x)))
noncomputable def z8o (x : Nat) : Option (Nat) := z8q x (fun c0_ => some c0_)
theorem ze2 {R R' : Type} (o : Option R → Option R') (h0 : o none = none) (x : Nat) (k_ : Nat → Option R) : z8q x (fun c0_ => o (k_ c0_)) = o (z8q x k_) := by
  unfold z8q
  repeat (first | refine grd_out h0 ?_ | refine br_out ?_ ?_ | rfl | exact h0.symm)
noncomputable def z9z (x : Nat) : Bool := (z8o x).isSome
noncomputable def z57 (x : Nat) : Nat := ((z8o x).getD default)
theorem zcr {x : Nat} {r : Nat} (h : z8o x = some r) : z9z x = true ∧ z57 x = r := by
  unfold z9z z57
  rw [h]
  exact ⟨rfl, rfl⟩
noncomputable def z74 {R : Type} (x : Nat) (k_ : Nat → Option R) : Option R := (grd (z9z (fop BinOp.add FloatKind.f64 (fcvV FloatKind.f32 FloatKind.f64 x) 4602678819172646912)) (grd (z97 (fop BinOp.sub FloatKind.f64 (fcvV FloatKind.f32 FloatKind.f64 x) (z57 (fop BinOp.add FloatKind.f64 (fcvV FloatKind.f32 FloatKind.f64 x) 4602678819172646912)))) (br (fcmp BinOp.geq FloatKind.f32 (z6y (fop BinOp.sub FloatKind.f64 (fcvV FloatKind.f32 FloatKind.f64 x) (z57 (fop BinOp.add FloatKind.f64 (fcvV FloatKind.f32 FloatKind.f64 x) 4602678819172646912)))) 1056964608) (k_ 3204448256) (k_ (z6y (fop BinOp.sub FloatKind.f64 (fcvV FloatKind.f32 FloatKind.f64 x) (z57 (fop BinOp.add FloatKind.f64 (fcvV FloatKind.f32 FloatKind.f64 x) 4602678819172646912))))))))
noncomputable def z7a (x : Nat) : Option (Nat) := z74 x (fun c0_ => some c0_)
theorem zd7 {R R' : Type} (o : Option R → Option R') (h0 : o none = none) (x : Nat) (k_ : Nat → Option R) : z74 x (fun c0_ => o (k_ c0_)) = o (z74 x k_) := by
  unfold z74
  repeat (first | refine grd_out h0 ?_ | refine br_out ?_ ?_ | rfl | exact h0.symm)
noncomputable def za3 (x : Nat) : Bool := (z7a x).isSome
noncomputable def z01 (x : Nat) : Nat := ((z7a x).getD default)
theorem zeh {x : Nat} {r : Nat} (h : z7a x = some r) : za3 x = true ∧ z01 x = r := by
  unfold za3 z01
  rw [h]
  exact ⟨rfl, rfl⟩
noncomputable def z65 {R : Type} (x : Nat) (k_ : Nat → Option R) : Option R := (grd (z9z (fop BinOp.add FloatKind.f64 (fcvV FloatKind.f32 FloatKind.f64 x) 4602678819172646912)) (grd (fcvB FloatKind.f64 FloatKind.f32 (fop BinOp.sub FloatKind.f64 (fcvV FloatKind.f32 FloatKind.f64 x) (z57 (fop BinOp.add FloatKind.f64 (fcvV FloatKind.f32 FloatKind.f64 x) 4602678819172646912)))) (br (fcmp BinOp.geq FloatKind.f32 (fcvV FloatKind.f64 FloatKind.f32 (fop BinOp.sub FloatKind.f64 (fcvV FloatKind.f32 FloatKind.f64 x) (z57 (fop BinOp.add FloatKind.f64 (fcvV FloatKind.f32 FloatKind.f64 x) 4602678819172646912)))) 1056964608) (k_ 3204448256) (k_ (fcvV FloatKind.f64 FloatKind.f32 (fop BinOp.sub FloatKind.f64 (fcvV FloatKind.f32 FloatKind.f64 x) (z57 (fop BinOp.add FloatKind.f64 (fcvV FloatKind.f32 FloatKind.f64 x) 4602678819172646912))))))))
noncomputable def z6h (x : Nat) : Option (Nat) := z65 x (fun c0_ => some c0_)
theorem zck {R R' : Type} (o : Option R → Option R') (h0 : o none = none) (x : Nat) (k_ : Nat → Option R) : z65 x (fun c0_ => o (k_ c0_)) = o (z65 x k_) := by
  unfold z65
  repeat (first | refine grd_out h0 ?_ | refine br_out ?_ ?_ | rfl | exact h0.symm)
noncomputable def z9c (x : Nat) : Bool := (z6h x).isSome
noncomputable def z32 (x : Nat) : Nat := ((z6h x).getD default)
theorem zdm {x : Nat} {r : Nat} (h : z6h x = some r) : z9c x = true ∧ z32 x = r := by
  unfold z9c z32
  rw [h]
  exact ⟨rfl, rfl⟩
noncomputable def z3a {R : Type} (s_n : Nat) (s : List Nat) (k_ : Bool → Option R) : Option R := (grd (z4a s_n (pF s 0 (muN s_n 1))) (k_ (leI 0 (z47 s_n (pF s 0 (muN s_n 1))))))
noncomputable def z3b (s_n : Nat) (s : List Nat) : Option (Bool) := z3a s_n s (fun c0_ => some c0_)
theorem z7q {R R' : Type} (o : Option R → Option R') (h0 : o none = none) (s_n : Nat) (s : List Nat) (k_ : Bool → Option R) : z3a s_n s (fun c0_ => o (k_ c0_)) = o (z3a s_n s k_) := by
  unfold z3a
  repeat (first | refine grd_out h0 ?_ | refine br_out ?_ ?_ | rfl | exact h0.symm)
noncomputable def z42 (s_n : Nat) (s : List Nat) : Bool := (z3b s_n s).isSome
noncomputable def z40 (s_n : Nat) (s : List Nat) : Bool := ((z3b s_n s).getD default)
theorem z8c {s_n : Nat} {s : List Nat} {r : Bool} (h : z3b s_n s = some r) : z42 s_n s = true ∧ z40 s_n s = r := by
  unfold z42 z40
  rw [h]
  exact ⟨rfl, rfl⟩
noncomputable def z3i {R : Type} (s_n : Nat) (s : List Nat) (k_ : Bool → Option R) : Option R := (grd (z4e s_n (pF s 0 (muN s_n 1))) (k_ (leI 0 (z49 s_n (pF s 0 (muN s_n 1))))))
noncomputable def z3j (s_n : Nat) (s : List Nat) : Option (Bool) := z3i s_n s (fun c0_ => some c0_)
theorem z82 {R R' : Type} (o : Option R → Option R') (h0 : o none = none) (s_n : Nat) (s : List Nat) (k_ : Bool → Option R) : z3i s_n s (fun c0_ => o (k_ c0_)) = o (z3i s_n s k_) := by
  unfold z3i
  repeat (first | refine grd_out h0 ?_ | refine br_out ?_ ?_ | rfl | exact h0.symm)
noncomputable def z45 (s_n : Nat) (s : List Nat) : Bool := (z3j s_n s).isSome
noncomputable def z41 (s_n : Nat) (s : List Nat) : Bool := ((z3j s_n s).getD default)
theorem z8w {s_n : Nat} {s : List Nat} {r : Bool} (h : z3j s_n s = some r) : z45 s_n s = true ∧ z41 s_n s = r := by
  unfold z45 z41
  rw [h]
  exact ⟨rfl, rfl⟩
noncomputable def z6d {R : Type} (q0q : Nat) (q0t : List Nat) (k_ : Bool → Option R) : Option R := (grd (z42 q0q (pF q0t 0 (muN q0q 1))) (k_ (bnot (z40 q0q (pF q0t 0 (muN q0q 1))))))
noncomputable def z6k (q0q : Nat) (q0t : List Nat) : Option (Bool) := z6d q0q q0t (fun c0_ => some c0_)
theorem zce {R R' : Type} (o : Option R → Option R') (h0 : o none = none) (q0q : Nat) (q0t : List Nat) (k_ : Bool → Option R) : z6d q0q q0t (fun c0_ => o (k_ c0_)) = o (z6d q0q q0t k_) := by
  unfold z6d
  repeat (first | refine grd_out h0 ?_ | refine br_out ?_ ?_ | rfl | exact h0.symm)
noncomputable def z9a (q0q : Nat) (q0t : List Nat) : Bool := (z6k q0q q0t).isSome
noncomputable def z8h (q0q : Nat) (q0t : List Nat) : Bool := ((z6k q0q q0t).getD default)
theorem zds {q0q : Nat} {q0t : List Nat} {r : Bool} (h : z6k q0q q0t = some r) : z9a q0q q0t = true ∧ z8h q0q q0t = r := by
  unfold z9a z8h
  rw [h]
  exact ⟨rfl, rfl⟩
noncomputable def z6n {R : Type} (q0q : Nat) (q0t : List Nat) (k_ : Bool → Option R) : Option R := (grd (z45 q0q (pF q0t 0 (muN q0q 1))) (k_ (bnot (z41 q0q (pF q0t 0 (muN q0q 1))))))
noncomputable def z6m (q0q : Nat) (q0t : List Nat) : Option (Bool) := z6n q0q q0t (fun c0_ => some c0_)
theorem zcu {R R' : Type} (o : Option R → Option R') (h0 : o none = none) (q0q : Nat) (q0t : List Nat) (k_ : Bool → Option R) : z6n q0q q0t (fun c0_ => o (k_ c0_)) = o (z6n q0q q0t k_) := by
  unfold z6n
  repeat (first | refine grd_out h0 ?_ | refine br_out ?_ ?_ | rfl | exact h0.symm)
noncomputable def z9n (q0q : Nat) (q0t : List Nat) : Bool := (z6m q0q q0t).isSome
noncomputable def z9g (q0q : Nat) (q0t : List Nat) : Bool := ((z6m q0q q0t).getD default)
theorem ze1 {q0q : Nat} {q0t : List Nat} {r : Bool} (h : z6m q0q q0t = some r) : z9n q0q q0t = true ∧ z9g q0q q0t = r := by
  unfold z9n z9g
  rw [h]
  exact ⟨rfl, rfl⟩
noncomputable def z4o {R : Type} (t8 : Nat) (b0 : List Nat) (q0m : Nat) (t10 : Int) (kn_ : Int → Option R) (k0_ : Int → Bool → Option R) : Option R := (br (leI 0 t10) (grd (okIx t10 q0m) (br (fcmp BinOp.gtr FloatKind.f32 (gF b0 (ixO 0 t10 1)) t8) (kn_ (subI IntKind.i64 t10 1)) (k0_ t10 (fcmp BinOp.gtr FloatKind.f32 (gF b0 (ixO 0 t10 1)) t8)))) (k0_ t10 Bool.false))
theorem zbw {R R' : Type} (o : Option R → Option R') (h0 : o none = none) (t8 : Nat) (b0 : List Nat) (q0m : Nat) (t10 : Int) (kn_ : Int → Option R) (k0_ : Int → Bool → Option R) : z4o t8 b0 q0m t10 (fun t10' => o (kn_ t10')) (fun c0_ c1_ => o (k0_ c0_ c1_)) = o (z4o t8 b0 q0m t10 kn_ k0_) := by
  unfold z4o
  repeat (first | refine grd_out h0 ?_ | refine br_out ?_ ?_ | rfl | exact h0.symm)
noncomputable def z3x (t8 : Nat) (b0 : List Nat) (q0m : Nat) : Nat → Int → Option ((Int × Bool))
  | 0, _ => none
  | n + 1, t10 => z4o t8 b0 q0m  t10  (fun t10' => z3x t8 b0 q0m n t10') (fun c0_ c1_ => some (c0_, c1_))
theorem zae (t8 : Nat) (b0 : List Nat) (q0m : Nat) (n : Nat) (t10 : Int) : z3x t8 b0 q0m (n + 1) t10 = z4o t8 b0 q0m  t10  (fun t10' => z3x t8 b0 q0m n t10') (fun c0_ c1_ => some (c0_, c1_)) := rfl
noncomputable def z8i (t8 : Nat) (b0 : List Nat) (q0m : Nat) (t10 : Int) : Bool := (z3x t8 b0 q0m big t10).isSome
noncomputable def z00 (t8 : Nat) (b0 : List Nat) (q0m : Nat) (t10 : Int) : Int := ((z3x t8 b0 q0m big t10).getD default).1
noncomputable def z9f (t8 : Nat) (b0 : List Nat) (q0m : Nat) (t10 : Int) : Bool := ((z3x t8 b0 q0m big t10).getD default).2
theorem zaq {t8 : Nat} {b0 : List Nat} {q0m : Nat} {t10 : Int} {m : Nat} {r : Int × Bool} (hm : m = big) (h : z3x t8 b0 q0m m t10 = some r) : z8i t8 b0 q0m t10 = true ∧ z00 t8 b0 q0m t10 = r.1 ∧ z9f t8 b0 q0m t10 = r.2 := by
  subst hm
  unfold z8i z00 z9f
  rw [h]
  exact ⟨rfl, rfl, rfl⟩
noncomputable def z2o {R : Type} (sn : Nat) (t7 : Int) (b0 : List Nat) (b4 : Nat) (t8 : Int) (kn_ : Int → Option R) (k0_ : Int → Option R) (k1_ : Int → Bool → Option R) : Option R := (br (ltI t8 t7) (grd (okIx t8 sn) (br (fcmp BinOp.gtr FloatKind.f32 (gF b0 (ixO 0 t8 1)) b4) (k0_ t8) (kn_ (addI IntKind.i64 t8 1)))) (k1_ t8 (ltI t8 t7)))
theorem z76 {R R' : Type} (o : Option R → Option R') (h0 : o none = none) (sn : Nat) (t7 : Int) (b0 : List Nat) (b4 : Nat) (t8 : Int) (kn_ : Int → Option R) (k0_ : Int → Option R) (k1_ : Int → Bool → Option R) : z2o sn t7 b0 b4 t8 (fun t8' => o (kn_ t8')) (fun c0_ => o (k0_ c0_)) (fun c0_ c1_ => o (k1_ c0_ c1_)) = o (z2o sn t7 b0 b4 t8 kn_ k0_ k1_) := by
  unfold z2o
  repeat (first | refine grd_out h0 ?_ | refine br_out ?_ ?_ | rfl | exact h0.symm)
noncomputable def z0l (sn : Nat) (t7 : Int) (b0 : List Nat) (b4 : Nat) : Nat → Int → Option ((Int) ⊕ (Int × Bool))
  | 0, _ => none
  | n + 1, t8 => z2o sn t7 b0 b4  t8  (fun t8' => z0l sn t7 b0 b4 n t8') (fun c0_ => some (Sum.inl c0_)) (fun c0_ c1_ => some (Sum.inr (c0_, c1_)))
theorem z4r (sn : Nat) (t7 : Int) (b0 : List Nat) (b4 : Nat) (n : Nat) (t8 : Int) : z0l sn t7 b0 b4 (n + 1) t8 = z2o sn t7 b0 b4  t8  (fun t8' => z0l sn t7 b0 b4 n t8') (fun c0_ => some (Sum.inl c0_)) (fun c0_ c1_ => some (Sum.inr (c0_, c1_))) := rfl
noncomputable def z36 (sn : Nat) (t7 : Int) (b0 : List Nat) (b4 : Nat) (t8 : Int) : Bool := (z0l sn t7 b0 b4 big t8).isSome
noncomputable def z35 (sn : Nat) (t7 : Int) (b0 : List Nat) (b4 : Nat) (t8 : Int) : Bool := oL (z0l sn t7 b0 b4 big t8)
noncomputable def z1r (sn : Nat) (t7 : Int) (b0 : List Nat) (b4 : Nat) (t8 : Int) : Int := ((tL (z0l sn t7 b0 b4 big t8)).getD default)
noncomputable def z4d (sn : Nat) (t7 : Int) (b0 : List Nat) (b4 : Nat) (t8 : Int) : Int := ((tR (z0l sn t7 b0 b4 big t8)).getD default).1
noncomputable def z4b (sn : Nat) (t7 : Int) (b0 : List Nat) (b4 : Nat) (t8 : Int) : Bool := ((tR (z0l sn t7 b0 b4 big t8)).getD default).2
theorem z7k {sn : Nat} {t7 : Int} {b0 : List Nat} {b4 : Nat} {t8 : Int} {m : Nat} {r : Int} (hm : m = big) (h : z0l sn t7 b0 b4 m t8 = some (Sum.inl r)) : z36 sn t7 b0 b4 t8 = true ∧ z35 sn t7 b0 b4 t8 = true ∧ z1r sn t7 b0 b4 t8 = r := by
  subst hm
  unfold z36 z35 z1r
  rw [h]
  exact ⟨rfl, rfl, rfl⟩
theorem z7j {sn : Nat} {t7 : Int} {b0 : List Nat} {b4 : Nat} {t8 : Int} {m : Nat} {r : Int × Bool} (hm : m = big) (h : z0l sn t7 b0 b4 m t8 = some (Sum.inr r)) : z36 sn t7 b0 b4 t8 = true ∧ z35 sn t7 b0 b4 t8 = false ∧ z4d sn t7 b0 b4 t8 = r.1 ∧ z4b sn t7 b0 b4 t8 = r.2 := by
  subst hm
  unfold z36 z35 z4d z4b
  rw [h]
  exact ⟨rfl, rfl, rfl, rfl⟩
noncomputable def z6f {R : Type} (q00 : Nat) (q01 : List Nat) (q09 : Nat) (q0b : List Nat) (q08 : Nat) (q0a : List Nat) (x1 : Nat) (k_ : Int → Int → Nat → Nat → Option R) : Option R := (grd (za3 x1) (grd (z8i (z01 x1) q01 q00 (subI IntKind.i64 (Int.ofNat q00) 1)) (br (ltI (z00 (z01 x1) q01 q00 (subI IntKind.i64 (Int.ofNat q00) 1)) 0) (grd (okIx (subI IntKind.i64 (Int.ofNat q00) 1) q00) (grd (okIx 0 q00) (br (eqI 0 0) (br (fcmp BinOp.lss FloatKind.f32 (z01 x1) (gF q01 (ixO 0 0 1))) (br (fcmp BinOp.eql FloatKind.f32 (fop BinOp.sub FloatKind.f32 (gF q01 (ixO 0 0 1)) (fop BinOp.sub FloatKind.f32 (gF q01 (ixO 0 (subI IntKind.i64 (Int.ofNat q00) 1) 1)) 1065353216)) 0) (k_ (subI IntKind.i64 (Int.ofNat q00) 1) 0 0 (fop BinOp.sub FloatKind.f32 (gF q01 (ixO 0 0 1)) (fop BinOp.sub FloatKind.f32 (gF q01 (ixO 0 (subI IntKind.i64 (Int.ofNat q00) 1) 1)) 1065353216))) (k_ (subI IntKind.i64 (Int.ofNat q00) 1) 0 (fop BinOp.quo FloatKind.f32 (fop BinOp.sub FloatKind.f32 (z01 x1) (fop BinOp.sub FloatKind.f32 (gF q01 (ixO 0 (subI IntKind.i64 (Int.ofNat q00) 1) 1)) 1065353216)) (fop BinOp.sub FloatKind.f32 (gF q01 (ixO 0 0 1)) (fop BinOp.sub FloatKind.f32 (gF q01 (ixO 0 (subI IntKind.i64 (Int.ofNat q00) 1) 1)) 1065353216))) (fop BinOp.sub FloatKind.f32 (gF q01 (ixO 0 0 1)) (fop BinOp.sub FloatKind.f32 (gF q01 (ixO 0 (subI IntKind.i64 (Int.ofNat q00) 1) 1)) 1065353216)))) (br (eqI 0 0) (br (fcmp BinOp.eql FloatKind.f32 (fop BinOp.sub FloatKind.f32 (fop BinOp.add FloatKind.f32 (gF q01 (ixO 0 0 1)) 1065353216) (gF q01 (ixO 0 (subI IntKind.i64 (Int.ofNat q00) 1) 1))) 0) (k_ (subI IntKind.i64 (Int.ofNat q00) 1) 0 0 (fop BinOp.sub FloatKind.f32 (fop BinOp.add FloatKind.f32 (gF q01 (ixO 0 0 1)) 1065353216) (gF q01 (ixO 0 (subI IntKind.i64 (Int.ofNat q00) 1) 1)))) (k_ (subI IntKind.i64 (Int.ofNat q00) 1) 0 (fop BinOp.quo FloatKind.f32 (fop BinOp.sub FloatKind.f32 (z01 x1) (gF q01 (ixO 0 (subI IntKind.i64 (Int.ofNat q00) 1) 1))) (fop BinOp.sub FloatKind.f32 (fop BinOp.add FloatKind.f32 (gF q01 (ixO 0 0 1)) 1065353216) (gF q01 (ixO 0 (subI IntKind.i64 (Int.ofNat q00) 1) 1)))) (fop BinOp.sub FloatKind.f32 (fop BinOp.add FloatKind.f32 (gF q01 (ixO 0 0 1)) 1065353216) (gF q01 (ixO 0 (subI IntKind.i64 (Int.ofNat q00) 1) 1))))) (br (fcmp BinOp.eql FloatKind.f32 (fop BinOp.sub FloatKind.f32 (gF q01 (ixO 0 0 1)) (gF q01 (ixO 0 (subI IntKind.i64 (Int.ofNat q00) 1) 1))) 0) (k_ (subI IntKind.i64 (Int.ofNat q00) 1) 0 0 (fop BinOp.sub FloatKind.f32 (gF q01 (ixO 0 0 1)) (gF q01 (ixO 0 (subI IntKind.i64 (Int.ofNat q00) 1) 1)))) (k_ (subI IntKind.i64 (Int.ofNat q00) 1) 0 (fop BinOp.quo FloatKind.f32 (fop BinOp.sub FloatKind.f32 (z01 x1) (gF q01 (ixO 0 (subI IntKind.i64 (Int.ofNat q00) 1) 1))) (fop BinOp.sub FloatKind.f32 (gF q01 (ixO 0 0 1)) (gF q01 (ixO 0 (subI IntKind.i64 (Int.ofNat q00) 1) 1)))) (fop BinOp.sub FloatKind.f32 (gF q01 (ixO 0 0 1)) (gF q01 (ixO 0 (subI IntKind.i64 (Int.ofNat q00) 1) 1))))))) (br (eqI 0 0) (br (fcmp BinOp.eql FloatKind.f32 (fop BinOp.sub FloatKind.f32 (fop BinOp.add FloatKind.f32 (gF q01 (ixO 0 0 1)) 1065353216) (gF q01 (ixO 0 (subI IntKind.i64 (Int.ofNat q00) 1) 1))) 0) (k_ (subI IntKind.i64 (Int.ofNat q00) 1) 0 0 (fop BinOp.sub FloatKind.f32 (fop BinOp.add FloatKind.f32 (gF q01 (ixO 0 0 1)) 1065353216) (gF q01 (ixO 0 (subI IntKind.i64 (Int.ofNat q00) 1) 1)))) (k_ (subI IntKind.i64 (Int.ofNat q00) 1) 0 (fop BinOp.quo FloatKind.f32 (fop BinOp.sub FloatKind.f32 (z01 x1) (gF q01 (ixO 0 (subI IntKind.i64 (Int.ofNat q00) 1) 1))) (fop BinOp.sub FloatKind.f32 (fop BinOp.add FloatKind.f32 (gF q01 (ixO 0 0 1)) 1065353216) (gF q01 (ixO 0 (subI IntKind.i64 (Int.ofNat q00) 1) 1)))) (fop BinOp.sub FloatKind.f32 (fop BinOp.add FloatKind.f32 (gF q01 (ixO 0 0 1)) 1065353216) (gF q01 (ixO 0 (subI IntKind.i64 (Int.ofNat q00) 1) 1))))) (br (fcmp BinOp.eql FloatKind.f32 (fop BinOp.sub FloatKind.f32 (gF q01 (ixO 0 0 1)) (gF q01 (ixO 0 (subI IntKind.i64 (Int.ofNat q00) 1) 1))) 0) (k_ (subI IntKind.i64 (Int.ofNat q00) 1) 0 0 (fop BinOp.sub FloatKind.f32 (gF q01 (ixO 0 0 1)) (gF q01 (ixO 0 (subI IntKind.i64 (Int.ofNat q00) 1) 1)))) (k_ (subI IntKind.i64 (Int.ofNat q00) 1) 0 (fop BinOp.quo FloatKind.f32 (fop BinOp.sub FloatKind.f32 (z01 x1) (gF q01 (ixO 0 (subI IntKind.i64 (Int.ofNat q00) 1) 1))) (fop BinOp.sub FloatKind.f32 (gF q01 (ixO 0 0 1)) (gF q01 (ixO 0 (subI IntKind.i64 (Int.ofNat q00) 1) 1)))) (fop BinOp.sub FloatKind.f32 (gF q01 (ixO 0 0 1)) (gF q01 (ixO 0 (subI IntKind.i64 (Int.ofNat q00) 1) 1))))))))) (br (eqI (addI IntKind.i64 (z00 (z01 x1) q01 q00 (subI IntKind.i64 (Int.ofNat q00) 1)) 1) (Int.ofNat q00)) (grd (okIx (z00 (z01 x1) q01 q00 (subI IntKind.i64 (Int.ofNat q00) 1)) q00) (grd (okIx 0 q00) (br (eqI 0 0) (br (fcmp BinOp.lss FloatKind.f32 (z01 x1) (gF q01 (ixO 0 0 1))) (br (fcmp BinOp.eql FloatKind.f32 (fop BinOp.sub FloatKind.f32 (gF q01 (ixO 0 0 1)) (fop BinOp.sub FloatKind.f32 (gF q01 (ixO 0 (z00 (z01 x1) q01 q00 (subI IntKind.i64 (Int.ofNat q00) 1)) 1)) 1065353216)) 0) (k_ (z00 (z01 x1) q01 q00 (subI IntKind.i64 (Int.ofNat q00) 1)) 0 0 (fop BinOp.sub FloatKind.f32 (gF q01 (ixO 0 0 1)) (fop BinOp.sub FloatKind.f32 (gF q01 (ixO 0 (z00 (z01 x1) q01 q00 (subI IntKind.i64 (Int.ofNat q00) 1)) 1)) 1065353216))) (k_ (z00 (z01 x1) q01 q00 (subI IntKind.i64 (Int.ofNat q00) 1)) 0 (fop BinOp.quo FloatKind.f32 (fop BinOp.sub FloatKind.f32 (z01 x1) (fop BinOp.sub FloatKind.f32 (gF q01 (ixO 0 (z00 (z01 x1) q01 q00 (subI IntKind.i64 (Int.ofNat q00) 1)) 1)) 1065353216)) (fop BinOp.sub FloatKind.f32 (gF q01 (ixO 0 0 1)) (fop BinOp.sub FloatKind.f32 (gF q01 (ixO 0 (z00 (z01 x1) q01 q00 (subI IntKind.i64 (Int.ofNat q00) 1)) 1)) 1065353216))) (fop BinOp.sub FloatKind.f32 (gF q01 (ixO 0 0 1)) (fop BinOp.sub FloatKind.f32 (gF q01 (ixO 0 (z00 (z01 x1) q01 q00 (subI IntKind.i64 (Int.ofNat q00) 1)) 1)) 1065353216)))) (br (eqI 0 0) (br (fcmp BinOp.eql FloatKind.f32 (fop BinOp.sub FloatKind.f32 (fop BinOp.add FloatKind.f32 (gF q01 (ixO 0 0 1)) 1065353216) (gF q01 (ixO 0 (z00 (z01 x1) q01 q00 (subI IntKind.i64 (Int.ofNat q00) 1)) 1))) 0) (k_ (z00 (z01 x1) q01 q00 (subI IntKind.i64 (Int.ofNat q00) 1)) 0 0 (fop BinOp.sub FloatKind.f32 (fop BinOp.add FloatKind.f32 (gF q01 (ixO 0 0 1)) 1065353216) (gF q01 (ixO 0 (z00 (z01 x1) q01 q00 (subI IntKind.i64 (Int.ofNat q00) 1)) 1)))) (k_ (z00 (z01 x1) q01 q00 (subI IntKind.i64 (Int.ofNat q00) 1)) 0 (fop BinOp.quo FloatKind.f32 (fop BinOp.sub FloatKind.f32 (z01 x1) (gF q01 (ixO 0 (z00 (z01 x1) q01 q00 (subI IntKind.i64 (Int.ofNat q00) 1)) 1))) (fop BinOp.sub FloatKind.f32 (fop BinOp.add FloatKind.f32 (gF q01 (ixO 0 0 1)) 1065353216) (gF q01 (ixO 0 (z00 (z01 x1) q01 q00 (subI IntKind.i64 (Int.ofNat q00) 1)) 1)))) (fop BinOp.sub FloatKind.f32 (fop BinOp.add FloatKind.f32 (gF q01 (ixO 0 0 1)) 1065353216) (gF q01 (ixO 0 (z00 (z01 x1) q01 q00 (subI IntKind.i64 (Int.ofNat q00) 1)) 1))))) (br (fcmp BinOp.eql FloatKind.f32 (fop BinOp.sub FloatKind.f32 (gF q01 (ixO 0 0 1)) (gF q01 (ixO 0 (z00 (z01 x1) q01 q00 (subI IntKind.i64 (Int.ofNat q00) 1)) 1))) 0) (k_ (z00 (z01 x1) q01 q00 (subI IntKind.i64 (Int.ofNat q00) 1)) 0 0 (fop BinOp.sub FloatKind.f32 (gF q01 (ixO 0 0 1)) (gF q01 (ixO 0 (z00 (z01 x1) q01 q00 (subI IntKind.i64 (Int.ofNat q00) 1)) 1)))) (k_ (z00 (z01 x1) q01 q00 (subI IntKind.i64 (Int.ofNat q00) 1)) 0 (fop BinOp.quo FloatKind.f32 (fop BinOp.sub FloatKind.f32 (z01 x1) (gF q01 (ixO 0 (z00 (z01 x1) q01 q00 (subI IntKind.i64 (Int.ofNat q00) 1)) 1))) (fop BinOp.sub FloatKind.f32 (gF q01 (ixO 0 0 1)) (gF q01 (ixO 0 (z00 (z01 x1) q01 q00 (subI IntKind.i64 (Int.ofNat q00) 1)) 1)))) (fop BinOp.sub FloatKind.f32 (gF q01 (ixO 0 0 1)) (gF q01 (ixO 0 (z00 (z01 x1) q01 q00 (subI IntKind.i64 (Int.ofNat q00) 1)) 1))))))) (br (eqI 0 0) (br (fcmp BinOp.eql FloatKind.f32 (fop BinOp.sub FloatKind.f32 (fop BinOp.add FloatKind.f32 (gF q01 (ixO 0 0 1)) 1065353216) (gF q01 (ixO 0 (z00 (z01 x1) q01 q00 (subI IntKind.i64 (Int.ofNat q00) 1)) 1))) 0) (k_ (z00 (z01 x1) q01 q00 (subI IntKind.i64 (Int.ofNat q00) 1)) 0 0 (fop BinOp.sub FloatKind.f32 (fop BinOp.add FloatKind.f32 (gF q01 (ixO 0 0 1)) 1065353216) (gF q01 (ixO 0 (z00 (z01 x1) q01 q00 (subI IntKind.i64 (Int.ofNat q00) 1)) 1)))) (k_ (z00 (z01 x1) q01 q00 (subI IntKind.i64 (Int.ofNat q00) 1)) 0 (fop BinOp.quo FloatKind.f32 (fop BinOp.sub FloatKind.f32 (z01 x1) (gF q01 (ixO 0 (z00 (z01 x1) q01 q00 (subI IntKind.i64 (Int.ofNat q00) 1)) 1))) (fop BinOp.sub FloatKind.f32 (fop BinOp.add FloatKind.f32 (gF q01 (ixO 0 0 1)) 1065353216) (gF q01 (ixO 0 (z00 (z01 x1) q01 q00 (subI IntKind.i64 (Int.ofNat q00) 1)) 1)))) (fop BinOp.sub FloatKind.f32 (fop BinOp.add FloatKind.f32 (gF q01 (ixO 0 0 1)) 1065353216) (gF q01 (ixO 0 (z00 (z01 x1) q01 q00 (subI IntKind.i64 (Int.ofNat q00) 1)) 1))))) (br (fcmp BinOp.eql FloatKind.f32 (fop BinOp.sub FloatKind.f32 (gF q01 (ixO 0 0 1)) (gF q01 (ixO 0 (z00 (z01 x1) q01 q00 (subI IntKind.i64 (Int.ofNat q00) 1)) 1))) 0) (k_ (z00 (z01 x1) q01 q00 (subI IntKind.i64 (Int.ofNat q00) 1)) 0 0 (fop BinOp.sub FloatKind.f32 (gF q01 (ixO 0 0 1)) (gF q01 (ixO 0 (z00 (z01 x1) q01 q00 (subI IntKind.i64 (Int.ofNat q00) 1)) 1)))) (k_ (z00 (z01 x1) q01 q00 (subI IntKind.i64 (Int.ofNat q00) 1)) 0 (fop BinOp.quo FloatKind.f32 (fop BinOp.sub FloatKind.f32 (z01 x1) (gF q01 (ixO 0 (z00 (z01 x1) q01 q00 (subI IntKind.i64 (Int.ofNat q00) 1)) 1))) (fop BinOp.sub FloatKind.f32 (gF q01 (ixO 0 0 1)) (gF q01 (ixO 0 (z00 (z01 x1) q01 q00 (subI IntKind.i64 (Int.ofNat q00) 1)) 1)))) (fop BinOp.sub FloatKind.f32 (gF q01 (ixO 0 0 1)) (gF q01 (ixO 0 (z00 (z01 x1) q01 q00 (subI IntKind.i64 (Int.ofNat q00) 1)) 1))))))))) (grd (okIx (z00 (z01 x1) q01 q00 (subI IntKind.i64 (Int.ofNat q00) 1)) q00) (grd (okIx (addI IntKind.i64 (z00 (z01 x1) q01 q00 (subI IntKind.i64 (Int.ofNat q00) 1)) 1) q00) (br (eqI (addI IntKind.i64 (z00 (z01 x1) q01 q00 (subI IntKind.i64 (Int.ofNat q00) 1)) 1) 0) (br (fcmp BinOp.lss FloatKind.f32 (z01 x1) (gF q01 (ixO 0 (addI IntKind.i64 (z00 (z01 x1) q01 q00 (subI IntKind.i64 (Int.ofNat q00) 1)) 1) 1))) (br (fcmp BinOp.eql FloatKind.f32 (fop BinOp.sub FloatKind.f32 (gF q01 (ixO 0 (addI IntKind.i64 (z00 (z01 x1) q01 q00 (subI IntKind.i64 (Int.ofNat q00) 1)) 1) 1)) (fop BinOp.sub FloatKind.f32 (gF q01 (ixO 0 (z00 (z01 x1) q01 q00 (subI IntKind.i64 (Int.ofNat q00) 1)) 1)) 1065353216)) 0) (k_ (z00 (z01 x1) q01 q00 (subI IntKind.i64 (Int.ofNat q00) 1)) (addI IntKind.i64 (z00 (z01 x1) q01 q00 (subI IntKind.i64 (Int.ofNat q00) 1)) 1) 0 (fop BinOp.sub FloatKind.f32 (gF q01 (ixO 0 (addI IntKind.i64 (z00 (z01 x1) q01 q00 (subI IntKind.i64 (Int.ofNat q00) 1)) 1) 1)) (fop BinOp.sub FloatKind.f32 (gF q01 (ixO 0 (z00 (z01 x1) q01 q00 (subI IntKind.i64 (Int.ofNat q00) 1)) 1)) 1065353216))) (k_ (z00 (z01 x1) q01 q00 (subI IntKind.i64 (Int.ofNat q00) 1)) (addI IntKind.i64 (z00 (z01 x1) q01 q00 (subI IntKind.i64 (Int.ofNat q00) 1)) 1) (fop BinOp.quo FloatKind.f32 (fop BinOp.sub FloatKind.f32 (z01 x1) (fop BinOp.sub FloatKind.f32 (gF q01 (ixO 0 (z00 (z01 x1) q01 q00 (subI IntKind.i64 (Int.ofNat q00) 1)) 1)) 1065353216)) (fop BinOp.sub FloatKind.f32 (gF q01 (ixO 0 (addI IntKind.i64 (z00 (z01 x1) q01 q00 (subI IntKind.i64 (Int.ofNat q00) 1)) 1) 1)) (fop BinOp.sub FloatKind.f32 (gF q01 (ixO 0 (z00 (z01 x1) q01 q00 (subI IntKind.i64 (Int.ofNat q00) 1)) 1)) 1065353216))) (fop BinOp.sub FloatKind.f32 (gF q01 (ixO 0 (addI IntKind.i64 (z00 (z01 x1) q01 q00 (subI IntKind.i64 (Int.ofNat q00) 1)) 1) 1)) (fop BinOp.sub FloatKind.f32 (gF q01 (ixO 0 (z00 (z01 x1) q01 q00 (subI IntKind.i64 (Int.ofNat q00) 1)) 1)) 1065353216)))) (br (eqI (addI IntKind.i64 (z00 (z01 x1) q01 q00 (subI IntKind.i64 (Int.ofNat q00) 1)) 1) 0) (br (fcmp BinOp.eql FloatKind.f32 (fop BinOp.sub FloatKind.f32 (fop BinOp.add FloatKind.f32 (gF q01 (ixO 0 (addI IntKind.i64 (z00 (z01 x1) q01 q00 (subI IntKind.i64 (Int.ofNat q00) 1)) 1) 1)) 1065353216) (gF q01 (ixO 0 (z00 (z01 x1) q01 q00 (subI IntKind.i64 (Int.ofNat q00) 1)) 1))) 0) (k_ (z00 (z01 x1) q01 q00 (subI IntKind.i64 (Int.ofNat q00) 1)) (addI IntKind.i64 (z00 (z01 x1) q01 q00 (subI IntKind.i64 (Int.ofNat q00) 1)) 1) 0 (fop BinOp.sub FloatKind.f32 (fop BinOp.add FloatKind.f32 (gF q01 (ixO 0 (addI IntKind.i64 (z00 (z01 x1) q01 q00 (subI IntKind.i64 (Int.ofNat q00) 1)) 1) 1)) 1065353216) (gF q01 (ixO 0 (z00 (z01 x1) q01 q00 (subI IntKind.i64 (Int.ofNat q00) 1)) 1)))) (k_ (z00 (z01 x1) q01 q00 (subI IntKind.i64 (Int.ofNat q00) 1)) (addI IntKind.i64 (z00 (z01 x1) q01 q00 (subI IntKind.i64 (Int.ofNat q00) 1)) 1) (fop BinOp.quo FloatKind.f32 (fop BinOp.sub FloatKind.f32 (z01 x1) (gF q01 (ixO 0 (z00 (z01 x1) q01 q00 (subI IntKind.i64 (Int.ofNat q00) 1)) 1))) (fop BinOp.sub FloatKind.f32 (fop BinOp.add FloatKind.f32 (gF q01 (ixO 0 (addI IntKind.i64 (z00 (z01 x1) q01 q00 (subI IntKind.i64 (Int.ofNat q00) 1)) 1) 1)) 1065353216) (gF q01 (ixO 0 (z00 (z01 x1) q01 q00 (subI IntKind.i64 (Int.ofNat q00) 1)) 1)))) (fop BinOp.sub FloatKind.f32 (fop BinOp.add FloatKind.f32 (gF q01 (ixO 0 (addI IntKind.i64 (z00 (z01 x1) q01 q00 (subI IntKind.i64 (Int.ofNat q00) 1)) 1) 1)) 1065353216) (gF q01 (ixO 0 (z00 (z01 x1) q01 q00 (subI IntKind.i64 (Int.ofNat q00) 1)) 1))))) (br (fcmp BinOp.eql FloatKind.f32 (fop BinOp.sub FloatKind.f32 (gF q01 (ixO 0 (addI IntKind.i64 (z00 (z01 x1) q01 q00 (subI IntKind.i64 (Int.ofNat q00) 1)) 1) 1)) (gF q01 (ixO 0 (z00 (z01 x1) q01 q00 (subI IntKind.i64 (Int.ofNat q00) 1)) 1))) 0) (k_ (z00 (z01 x1) q01 q00 (subI IntKind.i64 (Int.ofNat q00) 1)) (addI IntKind.i64 (z00 (z01 x1) q01 q00 (subI IntKind.i64 (Int.ofNat q00) 1)) 1) 0 (fop BinOp.sub FloatKind.f32 (gF q01 (ixO 0 (addI IntKind.i64 (z00 (z01 x1) q01 q00 (subI IntKind.i64 (Int.ofNat q00) 1)) 1) 1)) (gF q01 (ixO 0 (z00 (z01 x1) q01 q00 (subI IntKind.i64 (Int.ofNat q00) 1)) 1)))) (k_ (z00 (z01 x1) q01 q00 (subI IntKind.i64 (Int.ofNat q00) 1)) (addI IntKind.i64 (z00 (z01 x1) q01 q00 (subI IntKind.i64 (Int.ofNat q00) 1)) 1) (fop BinOp.quo FloatKind.f32 (fop BinOp.sub FloatKind.f32 (z01 x1) (gF q01 (ixO 0 (z00 (z01 x1) q01 q00 (subI IntKind.i64 (Int.ofNat q00) 1)) 1))) (fop BinOp.sub FloatKind.f32 (gF q01 (ixO 0 (addI IntKind.i64 (z00 (z01 x1) q01 q00 (subI IntKind.i64 (Int.ofNat q00) 1)) 1) 1)) (gF q01 (ixO 0 (z00 (z01 x1) q01 q00 (subI IntKind.i64 (Int.ofNat q00) 1)) 1)))) (fop BinOp.sub FloatKind.f32 (gF q01 (ixO 0 (addI IntKind.i64 (z00 (z01 x1) q01 q00 (subI IntKind.i64 (Int.ofNat q00) 1)) 1) 1)) (gF q01 (ixO 0 (z00 (z01 x1) q01 q00 (subI IntKind.i64 (Int.ofNat q00) 1)) 1))))))) (br (eqI (addI IntKind.i64 (z00 (z01 x1) q01 q00 (subI IntKind.i64 (Int.ofNat q00) 1)) 1) 0) (br (fcmp BinOp.eql FloatKind.f32 (fop BinOp.sub FloatKind.f32 (fop BinOp.add FloatKind.f32 (gF q01 (ixO 0 (addI IntKind.i64 (z00 (z01 x1) q01 q00 (subI IntKind.i64 (Int.ofNat q00) 1)) 1) 1)) 1065353216) (gF q01 (ixO 0 (z00 (z01 x1) q01 q00 (subI IntKind.i64 (Int.ofNat q00) 1)) 1))) 0) (k_ (z00 (z01 x1) q01 q00 (subI IntKind.i64 (Int.ofNat q00) 1)) (addI IntKind.i64 (z00 (z01 x1) q01 q00 (subI IntKind.i64 (Int.ofNat q00) 1)) 1) 0 (fop BinOp.sub FloatKind.f32 (fop BinOp.add FloatKind.f32 (gF q01 (ixO 0 (addI IntKind.i64 (z00 (z01 x1) q01 q00 (subI IntKind.i64 (Int.ofNat q00) 1)) 1) 1)) 1065353216) (gF q01 (ixO 0 (z00 (z01 x1) q01 q00 (subI IntKind.i64 (Int.ofNat q00) 1)) 1)))) (k_ (z00 (z01 x1) q01 q00 (subI IntKind.i64 (Int.ofNat q00) 1)) (addI IntKind.i64 (z00 (z01 x1) q01 q00 (subI IntKind.i64 (Int.ofNat q00) 1)) 1) (fop BinOp.quo FloatKind.f32 (fop BinOp.sub FloatKind.f32 (z01 x1) (gF q01 (ixO 0 (z00 (z01 x1) q01 q00 (subI IntKind.i64 (Int.ofNat q00) 1)) 1))) (fop BinOp.sub FloatKind.f32 (fop BinOp.add FloatKind.f32 (gF q01 (ixO 0 (addI IntKind.i64 (z00 (z01 x1) q01 q00 (subI IntKind.i64 (Int.ofNat q00) 1)) 1) 1)) 1065353216) (gF q01 (ixO 0 (z00 (z01 x1) q01 q00 (subI IntKind.i64 (Int.ofNat q00) 1)) 1)))) (fop BinOp.sub FloatKind.f32 (fop BinOp.add FloatKind.f32 (gF q01 (ixO 0 (addI IntKind.i64 (z00 (z01 x1) q01 q00 (subI IntKind.i64 (Int.ofNat q00) 1)) 1) 1)) 1065353216) (gF q01 (ixO 0 (z00 (z01 x1) q01 q00 (subI IntKind.i64 (Int.ofNat q00) 1)) 1))))) (br (fcmp BinOp.eql FloatKind.f32 (fop BinOp.sub FloatKind.f32 (gF q01 (ixO 0 (addI IntKind.i64 (z00 (z01 x1) q01 q00 (subI IntKind.i64 (Int.ofNat q00) 1)) 1) 1)) (gF q01 (ixO 0 (z00 (z01 x1) q01 q00 (subI IntKind.i64 (Int.ofNat q00) 1)) 1))) 0) (k_ (z00 (z01 x1) q01 q00 (subI IntKind.i64 (Int.ofNat q00) 1)) (addI IntKind.i64 (z00 (z01 x1) q01 q00 (subI IntKind.i64 (Int.ofNat q00) 1)) 1) 0 (fop BinOp.sub FloatKind.f32 (gF q01 (ixO 0 (addI IntKind.i64 (z00 (z01 x1) q01 q00 (subI IntKind.i64 (Int.ofNat q00) 1)) 1) 1)) (gF q01 (ixO 0 (z00 (z01 x1) q01 q00 (subI IntKind.i64 (Int.ofNat q00) 1)) 1)))) (k_ (z00 (z01 x1) q01 q00 (subI IntKind.i64 (Int.ofNat q00) 1)) (addI IntKind.i64 (z00 (z01 x1) q01 q00 (subI IntKind.i64 (Int.ofNat q00) 1)) 1) (fop BinOp.quo FloatKind.f32 (fop BinOp.sub FloatKind.f32 (z01 x1) (gF q01 (ixO 0 (z00 (z01 x1) q01 q00 (subI IntKind.i64 (Int.ofNat q00) 1)) 1))) (fop BinOp.sub FloatKind.f32 (gF q01 (ixO 0 (addI IntKind.i64 (z00 (z01 x1) q01 q00 (subI IntKind.i64 (Int.ofNat q00) 1)) 1) 1)) (gF q01 (ixO 0 (z00 (z01 x1) q01 q00 (subI IntKind.i64 (Int.ofNat q00) 1)) 1)))) (fop BinOp.sub FloatKind.f32 (gF q01 (ixO 0 (addI IntKind.i64 (z00 (z01 x1) q01 q00 (subI IntKind.i64 (Int.ofNat q00) 1)) 1) 1)) (gF q01 (ixO 0 (z00 (z01 x1) q01 q00 (subI IntKind.i64 (Int.ofNat q00) 1)) 1)))))))))))))
noncomputable def z4q (q00 : Nat) (q01 : List Nat) (q09 : Nat) (q0b : List Nat) (q08 : Nat) (q0a : List Nat) (x1 : Nat) : Option (Int × Int × Nat × Nat) := z6f q00 q01 q09 q0b q08 q0a x1 (fun c0_ c1_ c2_ c3_ => some (c0_, c1_, c2_, c3_))
theorem zd3 {R R' : Type} (o : Option R → Option R') (h0 : o none = none) (q00 : Nat) (q01 : List Nat) (q09 : Nat) (q0b : List Nat) (q08 : Nat) (q0a : List Nat) (x1 : Nat) (k_ : Int → Int → Nat → Nat → Option R) : z6f q00 q01 q09 q0b q08 q0a x1 (fun c0_ c1_ c2_ c3_ => o (k_ c0_ c1_ c2_ c3_)) = o (z6f q00 q01 q09 q0b q08 q0a x1 k_) := by
  unfold z6f
  repeat (first | refine grd_out h0 ?_ | refine br_out ?_ ?_ | rfl | exact h0.symm)
noncomputable def za8 (q00 : Nat) (q01 : List Nat) (q09 : Nat) (q0b : List Nat) (q08 : Nat) (q0a : List Nat) (x1 : Nat) : Bool := (z4q q00 q01 q09 q0b q08 q0a x1).isSome
noncomputable def z5l (q00 : Nat) (q01 : List Nat) (q09 : Nat) (q0b : List Nat) (q08 : Nat) (q0a : List Nat) (x1 : Nat) : Int := ((z4q q00 q01 q09 q0b q08 q0a x1).getD default).1
noncomputable def z85 (q00 : Nat) (q01 : List Nat) (q09 : Nat) (q0b : List Nat) (q08 : Nat) (q0a : List Nat) (x1 : Nat) : Int := ((z4q q00 q01 q09 q0b q08 q0a x1).getD default).2.1
noncomputable def z9l (q00 : Nat) (q01 : List Nat) (q09 : Nat) (q0b : List Nat) (q08 : Nat) (q0a : List Nat) (x1 : Nat) : Nat := ((z4q q00 q01 q09 q0b q08 q0a x1).getD default).2.2.1
noncomputable def zal (q00 : Nat) (q01 : List Nat) (q09 : Nat) (q0b : List Nat) (q08 : Nat) (q0a : List Nat) (x1 : Nat) : Nat := ((z4q q00 q01 q09 q0b q08 q0a x1).getD default).2.2.2
theorem zej {q00 : Nat} {q01 : List Nat} {q09 : Nat} {q0b : List Nat} {q08 : Nat} {q0a : List Nat} {x1 : Nat} {r : Int × Int × Nat × Nat} (h : z4q q00 q01 q09 q0b q08 q0a x1 = some r) : za8 q00 q01 q09 q0b q08 q0a x1 = true ∧ z5l q00 q01 q09 q0b q08 q0a x1 = r.1 ∧ z85 q00 q01 q09 q0b q08 q0a x1 = r.2.1 ∧ z9l q00 q01 q09 q0b q08 q0a x1 = r.2.2.1 ∧ zal q00 q01 q09 q0b q08 q0a x1 = r.2.2.2 := by
  unfold za8 z5l z85 z9l zal
  rw [h]
  exact ⟨rfl, rfl, rfl, rfl, rfl⟩
noncomputable def z4m {R : Type} (q00 : Nat) (q01 : List Nat) (q09 : Nat) (q0b : List Nat) (q08 : Nat) (q0a : List Nat) (x1 : Nat) (k_ : Int → Int → Nat → Nat → Nat → Option R) : Option R := (grd (z9c x1) (grd (z36 q00 (Int.ofNat q00) q01 (z32 x1) 0) (br (z35 q00 (Int.ofNat q00) q01 (z32 x1) 0) (br (eqI (z1r q00 (Int.ofNat q00) q01 (z32 x1) 0) 0) (grd (okIx (subI IntKind.i64 (Int.ofNat q00) 1) q00) (grd (okIx 0 q00) (k_ (subI IntKind.i64 (Int.ofNat q00) 1) 0 (fop BinOp.sub FloatKind.f32 (gF q01 (ixO 0 (subI IntKind.i64 (Int.ofNat q00) 1) 1)) 1065353216) (gF q01 (ixO 0 0 1)) (z32 x1)))) (br (ltI (z1r q00 (Int.ofNat q00) q01 (z32 x1) 0) 0) (grd (okIx (subI IntKind.i64 (Int.ofNat q00) 1) q00) (grd (okIx 0 q00) (k_ (subI IntKind.i64 (Int.ofNat q00) 1) 0 (gF q01 (ixO 0 (subI IntKind.i64 (Int.ofNat q00) 1) 1)) (fop BinOp.add FloatKind.f32 (gF q01 (ixO 0 0 1)) 1065353216) (z32 x1)))) (grd (okIx (subI IntKind.i64 (z1r q00 (Int.ofNat q00) q01 (z32 x1) 0) 1) q00) (grd (okIx (z1r q00 (Int.ofNat q00) q01 (z32 x1) 0) q00) (k_ (subI IntKind.i64 (z1r q00 (Int.ofNat q00) q01 (z32 x1) 0) 1) (z1r q00 (Int.ofNat q00) q01 (z32 x1) 0) (gF q01 (ixO 0 (subI IntKind.i64 (z1r q00 (Int.ofNat q00) q01 (z32 x1) 0) 1) 1)) (gF q01 (ixO 0 (z1r q00 (Int.ofNat q00) q01 (z32 x1) 0) 1)) (z32 x1)))))) (br (eqI (Int.negSucc 0) 0) (grd (okIx (subI IntKind.i64 (Int.ofNat q00) 1) q00) (grd (okIx 0 q00) (k_ (subI IntKind.i64 (Int.ofNat q00) 1) 0 (fop BinOp.sub FloatKind.f32 (gF q01 (ixO 0 (subI IntKind.i64 (Int.ofNat q00) 1) 1)) 1065353216) (gF q01 (ixO 0 0 1)) (z32 x1)))) (br (ltI (Int.negSucc 0) 0) (grd (okIx (subI IntKind.i64 (Int.ofNat q00) 1) q00) (grd (okIx 0 q00) (k_ (subI IntKind.i64 (Int.ofNat q00) 1) 0 (gF q01 (ixO 0 (subI IntKind.i64 (Int.ofNat q00) 1) 1)) (fop BinOp.add FloatKind.f32 (gF q01 (ixO 0 0 1)) 1065353216) (z32 x1)))) (grd (okIx (subI IntKind.i64 (Int.negSucc 0) 1) q00) (grd (okIx (Int.negSucc 0) q00) (k_ (subI IntKind.i64 (Int.negSucc 0) 1) (Int.negSucc 0) (gF q01 (ixO 0 (subI IntKind.i64 (Int.negSucc 0) 1) 1)) (gF q01 (ixO 0 (Int.negSucc 0) 1)) (z32 x1)))))))))
noncomputable def z3p (q00 : Nat) (q01 : List Nat) (q09 : Nat) (q0b : List Nat) (q08 : Nat) (q0a : List Nat) (x1 : Nat) : Option (Int × Int × Nat × Nat × Nat) := z4m q00 q01 q09 q0b q08 q0a x1 (fun c0_ c1_ c2_ c3_ c4_ => some (c0_, c1_, c2_, c3_, c4_))
theorem zat {R R' : Type} (o : Option R → Option R') (h0 : o none = none) (q00 : Nat) (q01 : List Nat) (q09 : Nat) (q0b : List Nat) (q08 : Nat) (q0a : List Nat) (x1 : Nat) (k_ : Int → Int → Nat → Nat → Nat → Option R) : z4m q00 q01 q09 q0b q08 q0a x1 (fun c0_ c1_ c2_ c3_ c4_ => o (k_ c0_ c1_ c2_ c3_ c4_)) = o (z4m q00 q01 q09 q0b q08 q0a x1 k_) := by
  unfold z4m
  repeat (first | refine grd_out h0 ?_ | refine br_out ?_ ?_ | rfl | exact h0.symm)
noncomputable def z6l (q00 : Nat) (q01 : List Nat) (q09 : Nat) (q0b : List Nat) (q08 : Nat) (q0a : List Nat) (x1 : Nat) : Bool := (z3p q00 q01 q09 q0b q08 q0a x1).isSome
noncomputable def z3v (q00 : Nat) (q01 : List Nat) (q09 : Nat) (q0b : List Nat) (q08 : Nat) (q0a : List Nat) (x1 : Nat) : Int := ((z3p q00 q01 q09 q0b q08 q0a x1).getD default).1
noncomputable def z3u (q00 : Nat) (q01 : List Nat) (q09 : Nat) (q0b : List Nat) (q08 : Nat) (q0a : List Nat) (x1 : Nat) : Int := ((z3p q00 q01 q09 q0b q08 q0a x1).getD default).2.1
noncomputable def z44 (q00 : Nat) (q01 : List Nat) (q09 : Nat) (q0b : List Nat) (q08 : Nat) (q0a : List Nat) (x1 : Nat) : Nat := ((z3p q00 q01 q09 q0b q08 q0a x1).getD default).2.2.1
noncomputable def z4p (q00 : Nat) (q01 : List Nat) (q09 : Nat) (q0b : List Nat) (q08 : Nat) (q0a : List Nat) (x1 : Nat) : Nat := ((z3p q00 q01 q09 q0b q08 q0a x1).getD default).2.2.2.1
noncomputable def z50 (q00 : Nat) (q01 : List Nat) (q09 : Nat) (q0b : List Nat) (q08 : Nat) (q0a : List Nat) (x1 : Nat) : Nat := ((z3p q00 q01 q09 q0b q08 q0a x1).getD default).2.2.2.2
theorem zbg {q00 : Nat} {q01 : List Nat} {q09 : Nat} {q0b : List Nat} {q08 : Nat} {q0a : List Nat} {x1 : Nat} {r : Int × Int × Nat × Nat × Nat} (h : z3p q00 q01 q09 q0b q08 q0a x1 = some r) : z6l q00 q01 q09 q0b q08 q0a x1 = true ∧ z3v q00 q01 q09 q0b q08 q0a x1 = r.1 ∧ z3u q00 q01 q09 q0b q08 q0a x1 = r.2.1 ∧ z44 q00 q01 q09 q0b q08 q0a x1 = r.2.2.1 ∧ z4p q00 q01 q09 q0b q08 q0a x1 = r.2.2.2.1 ∧ z50 q00 q01 q09 q0b q08 q0a x1 = r.2.2.2.2 := by
  unfold z6l z3v z3u z44 z4p z50
  rw [h]
  exact ⟨rfl, rfl, rfl, rfl, rfl, rfl⟩
noncomputable def z3y {R : Type} (q0z : Nat) (t43 : Int) (b0 : List Nat) (q0m : Nat) (t44 : Int) (kn_ : Int → Option R) (k0_ : Unit → Option R) (k1_ : Int → Bool → Option R) : Option R := (br (ltI t44 t43) (grd (okIx t44 q0z) (grd (z9r (gF b0 (ixO 0 t44 1)) 3204448256 1056964608) (br (bnot (z9e (gF b0 (ixO 0 t44 1)) 3204448256 1056964608)) (k0_ ()) (br (ltI 0 t44) (grd (okIx (subI IntKind.i64 t44 1) q0m) (br (fcmp BinOp.geq FloatKind.f32 (gF b0 (ixO 0 (subI IntKind.i64 t44 1) 1)) (gF b0 (ixO 0 t44 1))) (k0_ ()) (kn_ (addI IntKind.i64 t44 1)))) (kn_ (addI IntKind.i64 t44 1)))))) (k1_ t44 (ltI t44 t43)))
theorem zau {R R' : Type} (o : Option R → Option R') (h0 : o none = none) (q0z : Nat) (t43 : Int) (b0 : List Nat) (q0m : Nat) (t44 : Int) (kn_ : Int → Option R) (k0_ : Unit → Option R) (k1_ : Int → Bool → Option R) : z3y q0z t43 b0 q0m t44 (fun t44' => o (kn_ t44')) (fun _ => o (k0_ ())) (fun c0_ c1_ => o (k1_ c0_ c1_)) = o (z3y q0z t43 b0 q0m t44 kn_ k0_ k1_) := by
  unfold z3y
  repeat (first | refine grd_out h0 ?_ | refine br_out ?_ ?_ | rfl | exact h0.symm)
noncomputable def z37 (q0z : Nat) (t43 : Int) (b0 : List Nat) (q0m : Nat) : Nat → Int → Option ((Unit) ⊕ (Int × Bool))
  | 0, _ => none
  | n + 1, t44 => z3y q0z t43 b0 q0m  t44  (fun t44' => z37 q0z t43 b0 q0m n t44') (fun _ => some (Sum.inl ())) (fun c0_ c1_ => some (Sum.inr (c0_, c1_)))
theorem z96 (q0z : Nat) (t43 : Int) (b0 : List Nat) (q0m : Nat) (n : Nat) (t44 : Int) : z37 q0z t43 b0 q0m (n + 1) t44 = z3y q0z t43 b0 q0m  t44  (fun t44' => z37 q0z t43 b0 q0m n t44') (fun _ => some (Sum.inl ())) (fun c0_ c1_ => some (Sum.inr (c0_, c1_))) := rfl
noncomputable def z4n (q0z : Nat) (t43 : Int) (b0 : List Nat) (q0m : Nat) (t44 : Int) : Bool := (z37 q0z t43 b0 q0m big t44).isSome
noncomputable def z4g (q0z : Nat) (t43 : Int) (b0 : List Nat) (q0m : Nat) (t44 : Int) : Bool := oL (z37 q0z t43 b0 q0m big t44)
noncomputable def z73 (q0z : Nat) (t43 : Int) (b0 : List Nat) (q0m : Nat) (t44 : Int) : Int := ((tR (z37 q0z t43 b0 q0m big t44)).getD default).1
noncomputable def z6z (q0z : Nat) (t43 : Int) (b0 : List Nat) (q0m : Nat) (t44 : Int) : Bool := ((tR (z37 q0z t43 b0 q0m big t44)).getD default).2
theorem zb7 {q0z : Nat} {t43 : Int} {b0 : List Nat} {q0m : Nat} {t44 : Int} {m : Nat} {r : Unit} (hm : m = big) (h : z37 q0z t43 b0 q0m m t44 = some (Sum.inl r)) : z4n q0z t43 b0 q0m t44 = true ∧ z4g q0z t43 b0 q0m t44 = true := by
  subst hm
  unfold z4n z4g
  rw [h]
  exact ⟨rfl, rfl⟩
theorem zb6 {q0z : Nat} {t43 : Int} {b0 : List Nat} {q0m : Nat} {t44 : Int} {m : Nat} {r : Int × Bool} (hm : m = big) (h : z37 q0z t43 b0 q0m m t44 = some (Sum.inr r)) : z4n q0z t43 b0 q0m t44 = true ∧ z4g q0z t43 b0 q0m t44 = false ∧ z73 q0z t43 b0 q0m t44 = r.1 ∧ z6z q0z t43 b0 q0m t44 = r.2 := by
  subst hm
  unfold z4n z4g z73 z6z
  rw [h]
  exact ⟨rfl, rfl, rfl, rfl⟩
noncomputable def z54 {R : Type} (q00 : Nat) (q01 : List Nat) (q09 : Nat) (q0b : List Nat) (q08 : Nat) (q0a : List Nat) (k_ : Bool → Option R) : Option R := (br (ltI (Int.ofNat q00) 2) (k_ Bool.false) (br (ltI 24 (Int.ofNat q00)) (k_ Bool.false) (br (neI (Int.ofNat q09) (Int.ofNat q00)) (k_ Bool.false) (br (neI (Int.ofNat q08) (Int.ofNat q00)) (k_ Bool.false) (grd (z9a q09 (pF q0b 0 (muN q09 1))) (br (bnot (z8h q09 (pF q0b 0 (muN q09 1)))) (k_ Bool.false) (grd (z9n q08 (pF q0a 0 (muN q08 1))) (br (bnot (z9g q08 (pF q0a 0 (muN q08 1)))) (k_ Bool.false) (grd (z4n q00 (Int.ofNat q00) q01 q00 0) (br (z4g q00 (Int.ofNat q00) q01 q00 0) (k_ Bool.false) (k_ Bool.true)))))))))))
noncomputable def z53 (q00 : Nat) (q01 : List Nat) (q09 : Nat) (q0b : List Nat) (q08 : Nat) (q0a : List Nat) : Option (Bool) := z54 q00 q01 q09 q0b q08 q0a (fun c0_ => some c0_)
theorem zbh {R R' : Type} (o : Option R → Option R') (h0 : o none = none) (q00 : Nat) (q01 : List Nat) (q09 : Nat) (q0b : List Nat) (q08 : Nat) (q0a : List Nat) (k_ : Bool → Option R) : z54 q00 q01 q09 q0b q08 q0a (fun c0_ => o (k_ c0_)) = o (z54 q00 q01 q09 q0b q08 q0a k_) := by
  unfold z54
  repeat (first | refine grd_out h0 ?_ | refine br_out ?_ ?_ | rfl | exact h0.symm)
noncomputable def z7i (q00 : Nat) (q01 : List Nat) (q09 : Nat) (q0b : List Nat) (q08 : Nat) (q0a : List Nat) : Bool := (z53 q00 q01 q09 q0b q08 q0a).isSome
noncomputable def z70 (q00 : Nat) (q01 : List Nat) (q09 : Nat) (q0b : List Nat) (q08 : Nat) (q0a : List Nat) : Bool := ((z53 q00 q01 q09 q0b q08 q0a).getD default)
theorem zci {q00 : Nat} {q01 : List Nat} {q09 : Nat} {q0b : List Nat} {q08 : Nat} {q0a : List Nat} {r : Bool} (h : z53 q00 q01 q09 q0b q08 q0a = some r) : z7i q00 q01 q09 q0b q08 q0a = true ∧ z70 q00 q01 q09 q0b q08 q0a = r := by
  unfold z7i z70
  rw [h]
  exact ⟨rfl, rfl⟩
noncomputable def z61 {R : Type} (q03 : Nat) (q0c : List Nat) (q04 : Nat) (q0d : List Nat) (q07 : Nat) (q0e : List Nat) (q0q : Nat) (q0t : List Nat) (q0h : Nat) (k_ : Nat → Option R) : Option R := (grd (z6l q03 (pF q0c 0 (muN q03 1)) q04 (pF q0d 0 (muN q04 1)) q07 (pF q0e 0 (muN q07 1)) q0h) (br (fcmp BinOp.neq FloatKind.f32 (z44 q03 (pF q0c 0 (muN q03 1)) q04 (pF q0d 0 (muN q04 1)) q07 (pF q0e 0 (muN q07 1)) q0h) (z4p q03 (pF q0c 0 (muN q03 1)) q04 (pF q0d 0 (muN q04 1)) q07 (pF q0e 0 (muN q07 1)) q0h)) (grd (okIx (z3v q03 (pF q0c 0 (muN q03 1)) q04 (pF q0d 0 (muN q04 1)) q07 (pF q0e 0 (muN q07 1)) q0h) q0q) (grd (okIx (z3u q03 (pF q0c 0 (muN q03 1)) q04 (pF q0d 0 (muN q04 1)) q07 (pF q0e 0 (muN q07 1)) q0h) q0q) (grd (z9w (gF q0t (ixO 0 (z3v q03 (pF q0c 0 (muN q03 1)) q04 (pF q0d 0 (muN q04 1)) q07 (pF q0e 0 (muN q07 1)) q0h) 1)) (gF q0t (ixO 0 (z3u q03 (pF q0c 0 (muN q03 1)) q04 (pF q0d 0 (muN q04 1)) q07 (pF q0e 0 (muN q07 1)) q0h) 1)) (fop BinOp.quo FloatKind.f32 (fop BinOp.sub FloatKind.f32 (z50 q03 (pF q0c 0 (muN q03 1)) q04 (pF q0d 0 (muN q04 1)) q07 (pF q0e 0 (muN q07 1)) q0h) (z44 q03 (pF q0c 0 (muN q03 1)) q04 (pF q0d 0 (muN q04 1)) q07 (pF q0e 0 (muN q07 1)) q0h)) (fop BinOp.sub FloatKind.f32 (z4p q03 (pF q0c 0 (muN q03 1)) q04 (pF q0d 0 (muN q04 1)) q07 (pF q0e 0 (muN q07 1)) q0h) (z44 q03 (pF q0c 0 (muN q03 1)) q04 (pF q0d 0 (muN q04 1)) q07 (pF q0e 0 (muN q07 1)) q0h)))) (k_ (z9j (gF q0t (ixO 0 (z3v q03 (pF q0c 0 (muN q03 1)) q04 (pF q0d 0 (muN q04 1)) q07 (pF q0e 0 (muN q07 1)) q0h) 1)) (gF q0t (ixO 0 (z3u q03 (pF q0c 0 (muN q03 1)) q04 (pF q0d 0 (muN q04 1)) q07 (pF q0e 0 (muN q07 1)) q0h) 1)) (fop BinOp.quo FloatKind.f32 (fop BinOp.sub FloatKind.f32 (z50 q03 (pF q0c 0 (muN q03 1)) q04 (pF q0d 0 (muN q04 1)) q07 (pF q0e 0 (muN q07 1)) q0h) (z44 q03 (pF q0c 0 (muN q03 1)) q04 (pF q0d 0 (muN q04 1)) q07 (pF q0e 0 (muN q07 1)) q0h)) (fop BinOp.sub FloatKind.f32 (z4p q03 (pF q0c 0 (muN q03 1)) q04 (pF q0d 0 (muN q04 1)) q07 (pF q0e 0 (muN q07 1)) q0h) (z44 q03 (pF q0c 0 (muN q03 1)) q04 (pF q0d 0 (muN q04 1)) q07 (pF q0e 0 (muN q07 1)) q0h)))))))) (grd (okIx (z3v q03 (pF q0c 0 (muN q03 1)) q04 (pF q0d 0 (muN q04 1)) q07 (pF q0e 0 (muN q07 1)) q0h) q0q) (grd (okIx (z3u q03 (pF q0c 0 (muN q03 1)) q04 (pF q0d 0 (muN q04 1)) q07 (pF q0e 0 (muN q07 1)) q0h) q0q) (grd (z9w (gF q0t (ixO 0 (z3v q03 (pF q0c 0 (muN q03 1)) q04 (pF q0d 0 (muN q04 1)) q07 (pF q0e 0 (muN q07 1)) q0h) 1)) (gF q0t (ixO 0 (z3u q03 (pF q0c 0 (muN q03 1)) q04 (pF q0d 0 (muN q04 1)) q07 (pF q0e 0 (muN q07 1)) q0h) 1)) 0) (k_ (z9j (gF q0t (ixO 0 (z3v q03 (pF q0c 0 (muN q03 1)) q04 (pF q0d 0 (muN q04 1)) q07 (pF q0e 0 (muN q07 1)) q0h) 1)) (gF q0t (ixO 0 (z3u q03 (pF q0c 0 (muN q03 1)) q04 (pF q0d 0 (muN q04 1)) q07 (pF q0e 0 (muN q07 1)) q0h) 1)) 0)))))))
noncomputable def z60 (q03 : Nat) (q0c : List Nat) (q04 : Nat) (q0d : List Nat) (q07 : Nat) (q0e : List Nat) (q0q : Nat) (q0t : List Nat) (q0h : Nat) : Option (Nat) := z61 q03 q0c q04 q0d q07 q0e q0q q0t q0h (fun c0_ => some c0_)
theorem zc5 {R R' : Type} (o : Option R → Option R') (h0 : o none = none) (q03 : Nat) (q0c : List Nat) (q04 : Nat) (q0d : List Nat) (q07 : Nat) (q0e : List Nat) (q0q : Nat) (q0t : List Nat) (q0h : Nat) (k_ : Nat → Option R) : z61 q03 q0c q04 q0d q07 q0e q0q q0t q0h (fun c0_ => o (k_ c0_)) = o (z61 q03 q0c q04 q0d q07 q0e q0q q0t q0h k_) := by
  unfold z61
  repeat (first | refine grd_out h0 ?_ | refine br_out ?_ ?_ | rfl | exact h0.symm)
noncomputable def z8f (q03 : Nat) (q0c : List Nat) (q04 : Nat) (q0d : List Nat) (q07 : Nat) (q0e : List Nat) (q0q : Nat) (q0t : List Nat) (q0h : Nat) : Bool := (z60 q03 q0c q04 q0d q07 q0e q0q q0t q0h).isSome
noncomputable def z5i (q03 : Nat) (q0c : List Nat) (q04 : Nat) (q0d : List Nat) (q07 : Nat) (q0e : List Nat) (q0q : Nat) (q0t : List Nat) (q0h : Nat) : Nat := ((z60 q03 q0c q04 q0d q07 q0e q0q q0t q0h).getD default)
theorem zda {q03 : Nat} {q0c : List Nat} {q04 : Nat} {q0d : List Nat} {q07 : Nat} {q0e : List Nat} {q0q : Nat} {q0t : List Nat} {q0h : Nat} {r : Nat} (h : z60 q03 q0c q04 q0d q07 q0e q0q q0t q0h = some r) : z8f q03 q0c q04 q0d q07 q0e q0q q0t q0h = true ∧ z5i q03 q0c q04 q0d q07 q0e q0q q0t q0h = r := by
  unfold z8f z5i
  rw [h]
  exact ⟨rfl, rfl⟩
noncomputable def z90 {R : Type} (q03 : Nat) (q0c : List Nat) (q04 : Nat) (q0d : List Nat) (q07 : Nat) (q0e : List Nat) (q0q : Nat) (q0t : List Nat) (q0h : Nat) (k_ : Nat → Option R) : Option R := (grd (za8 q03 (pF q0c 0 (muN q03 1)) q04 (pF q0d 0 (muN q04 1)) q07 (pF q0e 0 (muN q07 1)) q0h) (grd (okIx (z5l q03 (pF q0c 0 (muN q03 1)) q04 (pF q0d 0 (muN q04 1)) q07 (pF q0e 0 (muN q07 1)) q0h) q0q) (grd (okIx (z85 q03 (pF q0c 0 (muN q03 1)) q04 (pF q0d 0 (muN q04 1)) q07 (pF q0e 0 (muN q07 1)) q0h) q0q) (grd (okIx (z5l q03 (pF q0c 0 (muN q03 1)) q04 (pF q0d 0 (muN q04 1)) q07 (pF q0e 0 (muN q07 1)) q0h) q0q) (k_ (fop BinOp.add FloatKind.f32 (gF q0t (ixO 0 (z5l q03 (pF q0c 0 (muN q03 1)) q04 (pF q0d 0 (muN q04 1)) q07 (pF q0e 0 (muN q07 1)) q0h) 1)) (fop BinOp.mul FloatKind.f32 (z9l q03 (pF q0c 0 (muN q03 1)) q04 (pF q0d 0 (muN q04 1)) q07 (pF q0e 0 (muN q07 1)) q0h) (fop BinOp.sub FloatKind.f32 (gF q0t (ixO 0 (z85 q03 (pF q0c 0 (muN q03 1)) q04 (pF q0d 0 (muN q04 1)) q07 (pF q0e 0 (muN q07 1)) q0h) 1)) (gF q0t (ixO 0 (z5l q03 (pF q0c 0 (muN q03 1)) q04 (pF q0d 0 (muN q04 1)) q07 (pF q0e 0 (muN q07 1)) q0h) 1))))))))))
noncomputable def z8y (q03 : Nat) (q0c : List Nat) (q04 : Nat) (q0d : List Nat) (q07 : Nat) (q0e : List Nat) (q0q : Nat) (q0t : List Nat) (q0h : Nat) : Option (Nat) := z90 q03 q0c q04 q0d q07 q0e q0q q0t q0h (fun c0_ => some c0_)
theorem ze8 {R R' : Type} (o : Option R → Option R') (h0 : o none = none) (q03 : Nat) (q0c : List Nat) (q04 : Nat) (q0d : List Nat) (q07 : Nat) (q0e : List Nat) (q0q : Nat) (q0t : List Nat) (q0h : Nat) (k_ : Nat → Option R) : z90 q03 q0c q04 q0d q07 q0e q0q q0t q0h (fun c0_ => o (k_ c0_)) = o (z90 q03 q0c q04 q0d q07 q0e q0q q0t q0h k_) := by
  unfold z90
  repeat (first | refine grd_out h0 ?_ | refine br_out ?_ ?_ | rfl | exact h0.symm)
noncomputable def zak (q03 : Nat) (q0c : List Nat) (q04 : Nat) (q0d : List Nat) (q07 : Nat) (q0e : List Nat) (q0q : Nat) (q0t : List Nat) (q0h : Nat) : Bool := (z8y q03 q0c q04 q0d q07 q0e q0q q0t q0h).isSome
noncomputable def zai (q03 : Nat) (q0c : List Nat) (q04 : Nat) (q0d : List Nat) (q07 : Nat) (q0e : List Nat) (q0q : Nat) (q0t : List Nat) (q0h : Nat) : Nat := ((z8y q03 q0c q04 q0d q07 q0e q0q q0t q0h).getD default)
theorem zf2 {q03 : Nat} {q0c : List Nat} {q04 : Nat} {q0d : List Nat} {q07 : Nat} {q0e : List Nat} {q0q : Nat} {q0t : List Nat} {q0h : Nat} {r : Nat} (h : z8y q03 q0c q04 q0d q07 q0e q0q q0t q0h = some r) : zak q03 q0c q04 q0d q07 q0e q0q q0t q0h = true ∧ zai q03 q0c q04 q0d q07 q0e q0q q0t q0h = r := by
  unfold zak zai
  rw [h]
  exact ⟨rfl, rfl⟩
noncomputable def z7t {R : Type} (q03 : Nat) (q0c : List Nat) (q04 : Nat) (q0d : List Nat) (q07 : Nat) (q0e : List Nat) (q0h : Nat) (k_ : Nat → Bool → Option R) : Option R := (grd (z7i q03 (pF q0c 0 (muN q03 1)) q04 (pF q0d 0 (muN q04 1)) q07 (pF q0e 0 (muN q07 1))) (br (bnot (z70 q03 (pF q0c 0 (muN q03 1)) q04 (pF q0d 0 (muN q04 1)) q07 (pF q0e 0 (muN q07 1)))) (k_ 0 Bool.false) (grd (z5p q0h) (br (bnot (z5b q0h)) (k_ 0 Bool.false) (grd (z8f q03 (pF q0c 0 (muN q03 1)) q04 (pF q0d 0 (muN q04 1)) q07 (pF q0e 0 (muN q07 1)) q04 (pF q0d 0 (muN q04 1)) q0h) (grd (zaa (z5i q03 (pF q0c 0 (muN q03 1)) q04 (pF q0d 0 (muN q04 1)) q07 (pF q0e 0 (muN q07 1)) q04 (pF q0d 0 (muN q04 1)) q0h)) (k_ (z9m (z5i q03 (pF q0c 0 (muN q03 1)) q04 (pF q0d 0 (muN q04 1)) q07 (pF q0e 0 (muN q07 1)) q04 (pF q0d 0 (muN q04 1)) q0h)) (z9o (z5i q03 (pF q0c 0 (muN q03 1)) q04 (pF q0d 0 (muN q04 1)) q07 (pF q0e 0 (muN q07 1)) q04 (pF q0d 0 (muN q04 1)) q0h)))))))))
noncomputable def z63 (q03 : Nat) (q0c : List Nat) (q04 : Nat) (q0d : List Nat) (q07 : Nat) (q0e : List Nat) (q0h : Nat) : Option (Nat × Bool) := z7t q03 q0c q04 q0d q07 q0e q0h (fun c0_ c1_ => some (c0_, c1_))
theorem zdw {R R' : Type} (o : Option R → Option R') (h0 : o none = none) (q03 : Nat) (q0c : List Nat) (q04 : Nat) (q0d : List Nat) (q07 : Nat) (q0e : List Nat) (q0h : Nat) (k_ : Nat → Bool → Option R) : z7t q03 q0c q04 q0d q07 q0e q0h (fun c0_ c1_ => o (k_ c0_ c1_)) = o (z7t q03 q0c q04 q0d q07 q0e q0h k_) := by
  unfold z7t
  repeat (first | refine grd_out h0 ?_ | refine br_out ?_ ?_ | rfl | exact h0.symm)
noncomputable def zah (q03 : Nat) (q0c : List Nat) (q04 : Nat) (q0d : List Nat) (q07 : Nat) (q0e : List Nat) (q0h : Nat) : Bool := (z63 q03 q0c q04 q0d q07 q0e q0h).isSome
noncomputable def z8s (q03 : Nat) (q0c : List Nat) (q04 : Nat) (q0d : List Nat) (q07 : Nat) (q0e : List Nat) (q0h : Nat) : Nat := ((z63 q03 q0c q04 q0d q07 q0e q0h).getD default).1
noncomputable def za7 (q03 : Nat) (q0c : List Nat) (q04 : Nat) (q0d : List Nat) (q07 : Nat) (q0e : List Nat) (q0h : Nat) : Bool := ((z63 q03 q0c q04 q0d q07 q0e q0h).getD default).2
theorem zer {q03 : Nat} {q0c : List Nat} {q04 : Nat} {q0d : List Nat} {q07 : Nat} {q0e : List Nat} {q0h : Nat} {r : Nat × Bool} (h : z63 q03 q0c q04 q0d q07 q0e q0h = some r) : zah q03 q0c q04 q0d q07 q0e q0h = true ∧ z8s q03 q0c q04 q0d q07 q0e q0h = r.1 ∧ za7 q03 q0c q04 q0d q07 q0e q0h = r.2 := by
  unfold zah z8s za7
  rw [h]
  exact ⟨rfl, rfl, rfl⟩
noncomputable def z78 {R : Type} (q03 : Nat) (q0c : List Nat) (q04 : Nat) (q0d : List Nat) (q07 : Nat) (q0e : List Nat) (q0h : Nat) (k_ : Nat → Option R) : Option R := (grd (zak q03 (pF q0c 0 (muN q03 1)) q04 (pF q0d 0 (muN q04 1)) q07 (pF q0e 0 (muN q07 1)) q04 (pF q0d 0 (muN q04 1)) q0h) (k_ (zai q03 (pF q0c 0 (muN q03 1)) q04 (pF q0d 0 (muN q04 1)) q07 (pF q0e 0 (muN q07 1)) q04 (pF q0d 0 (muN q04 1)) q0h)))
noncomputable def z79 (q03 : Nat) (q0c : List Nat) (q04 : Nat) (q0d : List Nat) (q07 : Nat) (q0e : List Nat) (q0h : Nat) : Option (Nat) := z78 q03 q0c q04 q0d q07 q0e q0h (fun c0_ => some c0_)
theorem zd6 {R R' : Type} (o : Option R → Option R') (h0 : o none = none) (q03 : Nat) (q0c : List Nat) (q04 : Nat) (q0d : List Nat) (q07 : Nat) (q0e : List Nat) (q0h : Nat) (k_ : Nat → Option R) : z78 q03 q0c q04 q0d q07 q0e q0h (fun c0_ => o (k_ c0_)) = o (z78 q03 q0c q04 q0d q07 q0e q0h k_) := by
  unfold z78
  repeat (first | refine grd_out h0 ?_ | refine br_out ?_ ?_ | rfl | exact h0.symm)
noncomputable def za4 (q03 : Nat) (q0c : List Nat) (q04 : Nat) (q0d : List Nat) (q07 : Nat) (q0e : List Nat) (q0h : Nat) : Bool := (z79 q03 q0c q04 q0d q07 q0e q0h).isSome
noncomputable def z6q (q03 : Nat) (q0c : List Nat) (q04 : Nat) (q0d : List Nat) (q07 : Nat) (q0e : List Nat) (q0h : Nat) : Nat := ((z79 q03 q0c q04 q0d q07 q0e q0h).getD default)
theorem zeo {q03 : Nat} {q0c : List Nat} {q04 : Nat} {q0d : List Nat} {q07 : Nat} {q0e : List Nat} {q0h : Nat} {r : Nat} (h : z79 q03 q0c q04 q0d q07 q0e q0h = some r) : za4 q03 q0c q04 q0d q07 q0e q0h = true ∧ z6q q03 q0c q04 q0d q07 q0e q0h = r := by
  unfold za4 z6q
  rw [h]
  exact ⟨rfl, rfl⟩
noncomputable def z7v {R : Type} (q03 : Nat) (q0c : List Nat) (q04 : Nat) (q0d : List Nat) (q07 : Nat) (q0e : List Nat) (q0h : Nat) (k_ : Nat → Bool → Option R) : Option R := (grd (zaj q03 (pF q0c 0 (muN q03 1)) q04 (pF q0d 0 (muN q04 1)) q07 (pF q0e 0 (muN q07 1)) q0h) (br (bnot (za9 q03 (pF q0c 0 (muN q03 1)) q04 (pF q0d 0 (muN q04 1)) q07 (pF q0e 0 (muN q07 1)) q0h)) (k_ 0 Bool.false) (grd (za4 q03 (pF q0c 0 (muN q03 1)) q04 (pF q0d 0 (muN q04 1)) q07 (pF q0e 0 (muN q07 1)) q0h) (grd (z99 (z6q q03 (pF q0c 0 (muN q03 1)) q04 (pF q0d 0 (muN q04 1)) q07 (pF q0e 0 (muN q07 1)) q0h)) (k_ (z8k (z6q q03 (pF q0c 0 (muN q03 1)) q04 (pF q0d 0 (muN q04 1)) q07 (pF q0e 0 (muN q07 1)) q0h)) (z8g (z6q q03 (pF q0c 0 (muN q03 1)) q04 (pF q0d 0 (muN q04 1)) q07 (pF q0e 0 (muN q07 1)) q0h)))))))
noncomputable def z6u (q03 : Nat) (q0c : List Nat) (q04 : Nat) (q0d : List Nat) (q07 : Nat) (q0e : List Nat) (q0h : Nat) : Option (Nat × Bool) := z7v q03 q0c q04 q0d q07 q0e q0h (fun c0_ c1_ => some (c0_, c1_))
theorem zdg {R R' : Type} (o : Option R → Option R') (h0 : o none = none) (q03 : Nat) (q0c : List Nat) (q04 : Nat) (q0d : List Nat) (q07 : Nat) (q0e : List Nat) (q0h : Nat) (k_ : Nat → Bool → Option R) : z7v q03 q0c q04 q0d q07 q0e q0h (fun c0_ c1_ => o (k_ c0_ c1_)) = o (z7v q03 q0c q04 q0d q07 q0e q0h k_) := by
  unfold z7v
  repeat (first | refine grd_out h0 ?_ | refine br_out ?_ ?_ | rfl | exact h0.symm)
noncomputable def zaf (q03 : Nat) (q0c : List Nat) (q04 : Nat) (q0d : List Nat) (q07 : Nat) (q0e : List Nat) (q0h : Nat) : Bool := (z6u q03 q0c q04 q0d q07 q0e q0h).isSome
noncomputable def z8p (q03 : Nat) (q0c : List Nat) (q04 : Nat) (q0d : List Nat) (q07 : Nat) (q0e : List Nat) (q0h : Nat) : Nat := ((z6u q03 q0c q04 q0d q07 q0e q0h).getD default).1
noncomputable def za6 (q03 : Nat) (q0c : List Nat) (q04 : Nat) (q0d : List Nat) (q07 : Nat) (q0e : List Nat) (q0h : Nat) : Bool := ((z6u q03 q0c q04 q0d q07 q0e q0h).getD default).2
theorem zew {q03 : Nat} {q0c : List Nat} {q04 : Nat} {q0d : List Nat} {q07 : Nat} {q0e : List Nat} {q0h : Nat} {r : Nat × Bool} (h : z6u q03 q0c q04 q0d q07 q0e q0h = some r) : zaf q03 q0c q04 q0d q07 q0e q0h = true ∧ z8p q03 q0c q04 q0d q07 q0e q0h = r.1 ∧ za6 q03 q0c q04 q0d q07 q0e q0h = r.2 := by
  unfold zaf z8p za6
  rw [h]
  exact ⟨rfl, rfl, rfl⟩
noncomputable def z4w {R : Type} (q02 : Nat) (q0g : List Nat) (q05 : Nat) (q0k : List Nat) (q06 : Nat) (q0j : List Nat) (q10 : Nat) (k_ : Bool → Option R) : Option R := (grd (z7g q02 (pF q0g 0 (muN q02 1)) q05 (pF q0k 0 (muN q05 1)) q06 (pF q0j 0 (muN q06 1)) 1048576) (br (ltI (z6w q02 (pF q0g 0 (muN q02 1)) q05 (pF q0k 0 (muN q05 1)) q06 (pF q0j 0 (muN q06 1)) 1048576) 0) (k_ Bool.true) (grd (z5c q02 (pF q0g 0 (muN q02 1)) q05 (pF q0k 0 (muN q05 1)) q06 (pF q0j 0 (muN q06 1))) (grd (zaf (z2f q02 (pF q0g 0 (muN q02 1)) q05 (pF q0k 0 (muN q05 1)) q06 (pF q0j 0 (muN q06 1))) (pF (z3f q02 (pF q0g 0 (muN q02 1)) q05 (pF q0k 0 (muN q05 1)) q06 (pF q0j 0 (muN q06 1))) 0 (muN (z2f q02 (pF q0g 0 (muN q02 1)) q05 (pF q0k 0 (muN q05 1)) q06 (pF q0j 0 (muN q06 1))) 1)) (z2h q02 (pF q0g 0 (muN q02 1)) q05 (pF q0k 0 (muN q05 1)) q06 (pF q0j 0 (muN q06 1))) (pF (z3d q02 (pF q0g 0 (muN q02 1)) q05 (pF q0k 0 (muN q05 1)) q06 (pF q0j 0 (muN q06 1))) 0 (muN (z2h q02 (pF q0g 0 (muN q02 1)) q05 (pF q0k 0 (muN q05 1)) q06 (pF q0j 0 (muN q06 1))) 1)) (z2e q02 (pF q0g 0 (muN q02 1)) q05 (pF q0k 0 (muN q05 1)) q06 (pF q0j 0 (muN q06 1))) (pF (z3e q02 (pF q0g 0 (muN q02 1)) q05 (pF q0k 0 (muN q05 1)) q06 (pF q0j 0 (muN q06 1))) 0 (muN (z2e q02 (pF q0g 0 (muN q02 1)) q05 (pF q0k 0 (muN q05 1)) q06 (pF q0j 0 (muN q06 1))) 1)) q10) (grd (z5c q02 (pF q0g 0 (muN q02 1)) q05 (pF q0k 0 (muN q05 1)) q06 (pF q0j 0 (muN q06 1))) (grd (zah (z2f q02 (pF q0g 0 (muN q02 1)) q05 (pF q0k 0 (muN q05 1)) q06 (pF q0j 0 (muN q06 1))) (pF (z3f q02 (pF q0g 0 (muN q02 1)) q05 (pF q0k 0 (muN q05 1)) q06 (pF q0j 0 (muN q06 1))) 0 (muN (z2f q02 (pF q0g 0 (muN q02 1)) q05 (pF q0k 0 (muN q05 1)) q06 (pF q0j 0 (muN q06 1))) 1)) (z2h q02 (pF q0g 0 (muN q02 1)) q05 (pF q0k 0 (muN q05 1)) q06 (pF q0j 0 (muN q06 1))) (pF (z3d q02 (pF q0g 0 (muN q02 1)) q05 (pF q0k 0 (muN q05 1)) q06 (pF q0j 0 (muN q06 1))) 0 (muN (z2h q02 (pF q0g 0 (muN q02 1)) q05 (pF q0k 0 (muN q05 1)) q06 (pF q0j 0 (muN q06 1))) 1)) (z2e q02 (pF q0g 0 (muN q02 1)) q05 (pF q0k 0 (muN q05 1)) q06 (pF q0j 0 (muN q06 1))) (pF (z3e q02 (pF q0g 0 (muN q02 1)) q05 (pF q0k 0 (muN q05 1)) q06 (pF q0j 0 (muN q06 1))) 0 (muN (z2e q02 (pF q0g 0 (muN q02 1)) q05 (pF q0k 0 (muN q05 1)) q06 (pF q0j 0 (muN q06 1))) 1)) q10) (grd (z7f (fcvV FloatKind.f32 FloatKind.f64 (z8s (z2f q02 (pF q0g 0 (muN q02 1)) q05 (pF q0k 0 (muN q05 1)) q06 (pF q0j 0 (muN q06 1))) (pF (z3f q02 (pF q0g 0 (muN q02 1)) q05 (pF q0k 0 (muN q05 1)) q06 (pF q0j 0 (muN q06 1))) 0 (muN (z2f q02 (pF q0g 0 (muN q02 1)) q05 (pF q0k 0 (muN q05 1)) q06 (pF q0j 0 (muN q06 1))) 1)) (z2h q02 (pF q0g 0 (muN q02 1)) q05 (pF q0k 0 (muN q05 1)) q06 (pF q0j 0 (muN q06 1))) (pF (z3d q02 (pF q0g 0 (muN q02 1)) q05 (pF q0k 0 (muN q05 1)) q06 (pF q0j 0 (muN q06 1))) 0 (muN (z2h q02 (pF q0g 0 (muN q02 1)) q05 (pF q0k 0 (muN q05 1)) q06 (pF q0j 0 (muN q06 1))) 1)) (z2e q02 (pF q0g 0 (muN q02 1)) q05 (pF q0k 0 (muN q05 1)) q06 (pF q0j 0 (muN q06 1))) (pF (z3e q02 (pF q0g 0 (muN q02 1)) q05 (pF q0k 0 (muN q05 1)) q06 (pF q0j 0 (muN q06 1))) 0 (muN (z2e q02 (pF q0g 0 (muN q02 1)) q05 (pF q0k 0 (muN q05 1)) q06 (pF q0j 0 (muN q06 1))) 1)) q10)) (fcvV FloatKind.f32 FloatKind.f64 (z8p (z2f q02 (pF q0g 0 (muN q02 1)) q05 (pF q0k 0 (muN q05 1)) q06 (pF q0j 0 (muN q06 1))) (pF (z3f q02 (pF q0g 0 (muN q02 1)) q05 (pF q0k 0 (muN q05 1)) q06 (pF q0j 0 (muN q06 1))) 0 (muN (z2f q02 (pF q0g 0 (muN q02 1)) q05 (pF q0k 0 (muN q05 1)) q06 (pF q0j 0 (muN q06 1))) 1)) (z2h q02 (pF q0g 0 (muN q02 1)) q05 (pF q0k 0 (muN q05 1)) q06 (pF q0j 0 (muN q06 1))) (pF (z3d q02 (pF q0g 0 (muN q02 1)) q05 (pF q0k 0 (muN q05 1)) q06 (pF q0j 0 (muN q06 1))) 0 (muN (z2h q02 (pF q0g 0 (muN q02 1)) q05 (pF q0k 0 (muN q05 1)) q06 (pF q0j 0 (muN q06 1))) 1)) (z2e q02 (pF q0g 0 (muN q02 1)) q05 (pF q0k 0 (muN q05 1)) q06 (pF q0j 0 (muN q06 1))) (pF (z3e q02 (pF q0g 0 (muN q02 1)) q05 (pF q0k 0 (muN q05 1)) q06 (pF q0j 0 (muN q06 1))) 0 (muN (z2e q02 (pF q0g 0 (muN q02 1)) q05 (pF q0k 0 (muN q05 1)) q06 (pF q0j 0 (muN q06 1))) 1)) q10))) (br (bnot (z6v (fcvV FloatKind.f32 FloatKind.f64 (z8s (z2f q02 (pF q0g 0 (muN q02 1)) q05 (pF q0k 0 (muN q05 1)) q06 (pF q0j 0 (muN q06 1))) (pF (z3f q02 (pF q0g 0 (muN q02 1)) q05 (pF q0k 0 (muN q05 1)) q06 (pF q0j 0 (muN q06 1))) 0 (muN (z2f q02 (pF q0g 0 (muN q02 1)) q05 (pF q0k 0 (muN q05 1)) q06 (pF q0j 0 (muN q06 1))) 1)) (z2h q02 (pF q0g 0 (muN q02 1)) q05 (pF q0k 0 (muN q05 1)) q06 (pF q0j 0 (muN q06 1))) (pF (z3d q02 (pF q0g 0 (muN q02 1)) q05 (pF q0k 0 (muN q05 1)) q06 (pF q0j 0 (muN q06 1))) 0 (muN (z2h q02 (pF q0g 0 (muN q02 1)) q05 (pF q0k 0 (muN q05 1)) q06 (pF q0j 0 (muN q06 1))) 1)) (z2e q02 (pF q0g 0 (muN q02 1)) q05 (pF q0k 0 (muN q05 1)) q06 (pF q0j 0 (muN q06 1))) (pF (z3e q02 (pF q0g 0 (muN q02 1)) q05 (pF q0k 0 (muN q05 1)) q06 (pF q0j 0 (muN q06 1))) 0 (muN (z2e q02 (pF q0g 0 (muN q02 1)) q05 (pF q0k 0 (muN q05 1)) q06 (pF q0j 0 (muN q06 1))) 1)) q10)) (fcvV FloatKind.f32 FloatKind.f64 (z8p (z2f q02 (pF q0g 0 (muN q02 1)) q05 (pF q0k 0 (muN q05 1)) q06 (pF q0j 0 (muN q06 1))) (pF (z3f q02 (pF q0g 0 (muN q02 1)) q05 (pF q0k 0 (muN q05 1)) q06 (pF q0j 0 (muN q06 1))) 0 (muN (z2f q02 (pF q0g 0 (muN q02 1)) q05 (pF q0k 0 (muN q05 1)) q06 (pF q0j 0 (muN q06 1))) 1)) (z2h q02 (pF q0g 0 (muN q02 1)) q05 (pF q0k 0 (muN q05 1)) q06 (pF q0j 0 (muN q06 1))) (pF (z3d q02 (pF q0g 0 (muN q02 1)) q05 (pF q0k 0 (muN q05 1)) q06 (pF q0j 0 (muN q06 1))) 0 (muN (z2h q02 (pF q0g 0 (muN q02 1)) q05 (pF q0k 0 (muN q05 1)) q06 (pF q0j 0 (muN q06 1))) 1)) (z2e q02 (pF q0g 0 (muN q02 1)) q05 (pF q0k 0 (muN q05 1)) q06 (pF q0j 0 (muN q06 1))) (pF (z3e q02 (pF q0g 0 (muN q02 1)) q05 (pF q0k 0 (muN q05 1)) q06 (pF q0j 0 (muN q06 1))) 0 (muN (z2e q02 (pF q0g 0 (muN q02 1)) q05 (pF q0k 0 (muN q05 1)) q06 (pF q0j 0 (muN q06 1))) 1)) q10)))) (k_ Bool.false) (br (bnot (beqB (za7 (z2f q02 (pF q0g 0 (muN q02 1)) q05 (pF q0k 0 (muN q05 1)) q06 (pF q0j 0 (muN q06 1))) (pF (z3f q02 (pF q0g 0 (muN q02 1)) q05 (pF q0k 0 (muN q05 1)) q06 (pF q0j 0 (muN q06 1))) 0 (muN (z2f q02 (pF q0g 0 (muN q02 1)) q05 (pF q0k 0 (muN q05 1)) q06 (pF q0j 0 (muN q06 1))) 1)) (z2h q02 (pF q0g 0 (muN q02 1)) q05 (pF q0k 0 (muN q05 1)) q06 (pF q0j 0 (muN q06 1))) (pF (z3d q02 (pF q0g 0 (muN q02 1)) q05 (pF q0k 0 (muN q05 1)) q06 (pF q0j 0 (muN q06 1))) 0 (muN (z2h q02 (pF q0g 0 (muN q02 1)) q05 (pF q0k 0 (muN q05 1)) q06 (pF q0j 0 (muN q06 1))) 1)) (z2e q02 (pF q0g 0 (muN q02 1)) q05 (pF q0k 0 (muN q05 1)) q06 (pF q0j 0 (muN q06 1))) (pF (z3e q02 (pF q0g 0 (muN q02 1)) q05 (pF q0k 0 (muN q05 1)) q06 (pF q0j 0 (muN q06 1))) 0 (muN (z2e q02 (pF q0g 0 (muN q02 1)) q05 (pF q0k 0 (muN q05 1)) q06 (pF q0j 0 (muN q06 1))) 1)) q10) (za6 (z2f q02 (pF q0g 0 (muN q02 1)) q05 (pF q0k 0 (muN q05 1)) q06 (pF q0j 0 (muN q06 1))) (pF (z3f q02 (pF q0g 0 (muN q02 1)) q05 (pF q0k 0 (muN q05 1)) q06 (pF q0j 0 (muN q06 1))) 0 (muN (z2f q02 (pF q0g 0 (muN q02 1)) q05 (pF q0k 0 (muN q05 1)) q06 (pF q0j 0 (muN q06 1))) 1)) (z2h q02 (pF q0g 0 (muN q02 1)) q05 (pF q0k 0 (muN q05 1)) q06 (pF q0j 0 (muN q06 1))) (pF (z3d q02 (pF q0g 0 (muN q02 1)) q05 (pF q0k 0 (muN q05 1)) q06 (pF q0j 0 (muN q06 1))) 0 (muN (z2h q02 (pF q0g 0 (muN q02 1)) q05 (pF q0k 0 (muN q05 1)) q06 (pF q0j 0 (muN q06 1))) 1)) (z2e q02 (pF q0g 0 (muN q02 1)) q05 (pF q0k 0 (muN q05 1)) q06 (pF q0j 0 (muN q06 1))) (pF (z3e q02 (pF q0g 0 (muN q02 1)) q05 (pF q0k 0 (muN q05 1)) q06 (pF q0j 0 (muN q06 1))) 0 (muN (z2e q02 (pF q0g 0 (muN q02 1)) q05 (pF q0k 0 (muN q05 1)) q06 (pF q0j 0 (muN q06 1))) 1)) q10))) (k_ Bool.false) (grd (z5c q02 (pF q0g 0 (muN q02 1)) q05 (pF q0k 0 (muN q05 1)) q06 (pF q0j 0 (muN q06 1))) (grd (z7e (z2f q02 (pF q0g 0 (muN q02 1)) q05 (pF q0k 0 (muN q05 1)) q06 (pF q0j 0 (muN q06 1))) (pF (z3f q02 (pF q0g 0 (muN q02 1)) q05 (pF q0k 0 (muN q05 1)) q06 (pF q0j 0 (muN q06 1))) 0 (muN (z2f q02 (pF q0g 0 (muN q02 1)) q05 (pF q0k 0 (muN q05 1)) q06 (pF q0j 0 (muN q06 1))) 1)) (z2h q02 (pF q0g 0 (muN q02 1)) q05 (pF q0k 0 (muN q05 1)) q06 (pF q0j 0 (muN q06 1))) (pF (z3d q02 (pF q0g 0 (muN q02 1)) q05 (pF q0k 0 (muN q05 1)) q06 (pF q0j 0 (muN q06 1))) 0 (muN (z2h q02 (pF q0g 0 (muN q02 1)) q05 (pF q0k 0 (muN q05 1)) q06 (pF q0j 0 (muN q06 1))) 1)) (z2e q02 (pF q0g 0 (muN q02 1)) q05 (pF q0k 0 (muN q05 1)) q06 (pF q0j 0 (muN q06 1))) (pF (z3e q02 (pF q0g 0 (muN q02 1)) q05 (pF q0k 0 (muN q05 1)) q06 (pF q0j 0 (muN q06 1))) 0 (muN (z2e q02 (pF q0g 0 (muN q02 1)) q05 (pF q0k 0 (muN q05 1)) q06 (pF q0j 0 (muN q06 1))) 1)) (z2f q02 (pF q0g 0 (muN q02 1)) q05 (pF q0k 0 (muN q05 1)) q06 (pF q0j 0 (muN q06 1))) (pF (z3f q02 (pF q0g 0 (muN q02 1)) q05 (pF q0k 0 (muN q05 1)) q06 (pF q0j 0 (muN q06 1))) 0 (muN (z2f q02 (pF q0g 0 (muN q02 1)) q05 (pF q0k 0 (muN q05 1)) q06 (pF q0j 0 (muN q06 1))) 1)) (z2h q02 (pF q0g 0 (muN q02 1)) q05 (pF q0k 0 (muN q05 1)) q06 (pF q0j 0 (muN q06 1))) (pF (z3d q02 (pF q0g 0 (muN q02 1)) q05 (pF q0k 0 (muN q05 1)) q06 (pF q0j 0 (muN q06 1))) 0 (muN (z2h q02 (pF q0g 0 (muN q02 1)) q05 (pF q0k 0 (muN q05 1)) q06 (pF q0j 0 (muN q06 1))) 1)) (z2e q02 (pF q0g 0 (muN q02 1)) q05 (pF q0k 0 (muN q05 1)) q06 (pF q0j 0 (muN q06 1))) (pF (z3e q02 (pF q0g 0 (muN q02 1)) q05 (pF q0k 0 (muN q05 1)) q06 (pF q0j 0 (muN q06 1))) 0 (muN (z2e q02 (pF q0g 0 (muN q02 1)) q05 (pF q0k 0 (muN q05 1)) q06 (pF q0j 0 (muN q06 1))) 1))) (br (bnot (z6x (z2f q02 (pF q0g 0 (muN q02 1)) q05 (pF q0k 0 (muN q05 1)) q06 (pF q0j 0 (muN q06 1))) (pF (z3f q02 (pF q0g 0 (muN q02 1)) q05 (pF q0k 0 (muN q05 1)) q06 (pF q0j 0 (muN q06 1))) 0 (muN (z2f q02 (pF q0g 0 (muN q02 1)) q05 (pF q0k 0 (muN q05 1)) q06 (pF q0j 0 (muN q06 1))) 1)) (z2h q02 (pF q0g 0 (muN q02 1)) q05 (pF q0k 0 (muN q05 1)) q06 (pF q0j 0 (muN q06 1))) (pF (z3d q02 (pF q0g 0 (muN q02 1)) q05 (pF q0k 0 (muN q05 1)) q06 (pF q0j 0 (muN q06 1))) 0 (muN (z2h q02 (pF q0g 0 (muN q02 1)) q05 (pF q0k 0 (muN q05 1)) q06 (pF q0j 0 (muN q06 1))) 1)) (z2e q02 (pF q0g 0 (muN q02 1)) q05 (pF q0k 0 (muN q05 1)) q06 (pF q0j 0 (muN q06 1))) (pF (z3e q02 (pF q0g 0 (muN q02 1)) q05 (pF q0k 0 (muN q05 1)) q06 (pF q0j 0 (muN q06 1))) 0 (muN (z2e q02 (pF q0g 0 (muN q02 1)) q05 (pF q0k 0 (muN q05 1)) q06 (pF q0j 0 (muN q06 1))) 1)) (z2f q02 (pF q0g 0 (muN q02 1)) q05 (pF q0k 0 (muN q05 1)) q06 (pF q0j 0 (muN q06 1))) (pF (z3f q02 (pF q0g 0 (muN q02 1)) q05 (pF q0k 0 (muN q05 1)) q06 (pF q0j 0 (muN q06 1))) 0 (muN (z2f q02 (pF q0g 0 (muN q02 1)) q05 (pF q0k 0 (muN q05 1)) q06 (pF q0j 0 (muN q06 1))) 1)) (z2h q02 (pF q0g 0 (muN q02 1)) q05 (pF q0k 0 (muN q05 1)) q06 (pF q0j 0 (muN q06 1))) (pF (z3d q02 (pF q0g 0 (muN q02 1)) q05 (pF q0k 0 (muN q05 1)) q06 (pF q0j 0 (muN q06 1))) 0 (muN (z2h q02 (pF q0g 0 (muN q02 1)) q05 (pF q0k 0 (muN q05 1)) q06 (pF q0j 0 (muN q06 1))) 1)) (z2e q02 (pF q0g 0 (muN q02 1)) q05 (pF q0k 0 (muN q05 1)) q06 (pF q0j 0 (muN q06 1))) (pF (z3e q02 (pF q0g 0 (muN q02 1)) q05 (pF q0k 0 (muN q05 1)) q06 (pF q0j 0 (muN q06 1))) 0 (muN (z2e q02 (pF q0g 0 (muN q02 1)) q05 (pF q0k 0 (muN q05 1)) q06 (pF q0j 0 (muN q06 1))) 1)))) (k_ Bool.false) (k_ Bool.true)))))))))))))
noncomputable def z4x (q02 : Nat) (q0g : List Nat) (q05 : Nat) (q0k : List Nat) (q06 : Nat) (q0j : List Nat) (q10 : Nat) : Option (Bool) := z4w q02 q0g q05 q0k q06 q0j q10 (fun c0_ => some c0_)
theorem zb9 {R R' : Type} (o : Option R → Option R') (h0 : o none = none) (q02 : Nat) (q0g : List Nat) (q05 : Nat) (q0k : List Nat) (q06 : Nat) (q0j : List Nat) (q10 : Nat) (k_ : Bool → Option R) : z4w q02 q0g q05 q0k q06 q0j q10 (fun c0_ => o (k_ c0_)) = o (z4w q02 q0g q05 q0k q06 q0j q10 k_) := by
  unfold z4w
  repeat (first | refine grd_out h0 ?_ | refine br_out ?_ ?_ | rfl | exact h0.symm)
noncomputable def z9d (q02 : Nat) (q0g : List Nat) (q05 : Nat) (q0k : List Nat) (q06 : Nat) (q0j : List Nat) (q10 : Nat) : Bool := (z4x q02 q0g q05 q0k q06 q0j q10).isSome
noncomputable def z8n (q02 : Nat) (q0g : List Nat) (q05 : Nat) (q0k : List Nat) (q06 : Nat) (q0j : List Nat) (q10 : Nat) : Bool := ((z4x q02 q0g q05 q0k q06 q0j q10).getD default)
theorem zc4 {q02 : Nat} {q0g : List Nat} {q05 : Nat} {q0k : List Nat} {q06 : Nat} {q0j : List Nat} {q10 : Nat} {r : Bool} (h : z4x q02 q0g q05 q0k q06 q0j q10 = some r) : z9d q02 q0g q05 q0k q06 q0j q10 = true ∧ z8n q02 q0g q05 q0k q06 q0j q10 = r := by
  unfold z9d z8n
  rw [h]
  exact ⟨rfl, rfl⟩
end Go.Rf
