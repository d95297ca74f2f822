import Derived.Test.YtihlcjjbenkokaaB
set_option linter.unusedVariables false
set_option linter.unusedSimpArgs false
set_option maxRecDepth 100000
set_option maxHeartbeats 4000000
namespace Go.Rf
open Go
noncomputable def z6k {R : Type} (a : Nat) (b : Nat) (k_ : Bool → Option R) : Option R := (br (fcmp BinOp.neq FloatKind.f64 a a) (br (fcmp BinOp.neq FloatKind.f64 a a) (k_ (fcmp BinOp.neq FloatKind.f64 b b)) (k_ Bool.false)) (br (fcmp BinOp.neq FloatKind.f64 b b) (br (fcmp BinOp.neq FloatKind.f64 a a) (k_ (fcmp BinOp.neq FloatKind.f64 b b)) (k_ Bool.false)) (br (fcmp BinOp.eql FloatKind.f64 a 0) (br (fcmp BinOp.eql FloatKind.f64 b 0) (k_ (beqB (fcmp BinOp.gtr FloatKind.f64 (fop BinOp.quo FloatKind.f64 4607182418800017408 a) 0) (fcmp BinOp.gtr FloatKind.f64 (fop BinOp.quo FloatKind.f64 4607182418800017408 b) 0))) (k_ (fcmp BinOp.eql FloatKind.f64 a b))) (k_ (fcmp BinOp.eql FloatKind.f64 a b)))))
noncomputable def z6b (a : Nat) (b : Nat) : Option (Bool) := z6k a b (fun c0_ => some c0_)
theorem zca {R R' : Type} (o : Option R → Option R') (h0 : o none = none) (a : Nat) (b : Nat) (k_ : Bool → Option R) : z6k a b (fun c0_ => o (k_ c0_)) = o (z6k a b k_) := by
  unfold z6k
  repeat (first | refine grd_out h0 ?_ | refine br_out ?_ ?_ | rfl | exact h0.symm)
noncomputable def z7e (a : Nat) (b : Nat) : Bool := (z6b a b).isSome
noncomputable def z6v (a : Nat) (b : Nat) : Bool := ((z6b a b).getD default)
theorem zb0 {a : Nat} {b : Nat} {r : Bool} (h : z6b a b = some r) : z7e a b = true ∧ z6v a b = r := by
  unfold z7e z6v
  rw [h]
  exact ⟨rfl, rfl⟩
noncomputable def z61 {R : Type} (a_n : Nat) (a : List Nat) (q0x : Int) (k_ : Int → Option R) : Option R := (br (ltI (subI IntKind.i64 q0x (Int.ofNat a_n)) 0) (k_ (Int.negSucc 0)) (k_ (subI IntKind.i64 q0x (Int.ofNat a_n))))
noncomputable def z5s (a_n : Nat) (a : List Nat) (q0x : Int) : Option (Int) := z61 a_n a q0x (fun c0_ => some c0_)
theorem zc0 {R R' : Type} (o : Option R → Option R') (h0 : o none = none) (a_n : Nat) (a : List Nat) (q0x : Int) (k_ : Int → Option R) : z61 a_n a q0x (fun c0_ => o (k_ c0_)) = o (z61 a_n a q0x k_) := by
  unfold z61
  repeat (first | refine grd_out h0 ?_ | refine br_out ?_ ?_ | rfl | exact h0.symm)
noncomputable def z5t (a_n : Nat) (a : List Nat) (q0x : Int) : Bool := (z5s a_n a q0x).isSome
noncomputable def z3g (a_n : Nat) (a : List Nat) (q0x : Int) : Int := ((z5s a_n a q0x).getD default)
theorem z9u {a_n : Nat} {a : List Nat} {q0x : Int} {r : Int} (h : z5s a_n a q0x = some r) : z5t a_n a q0x = true ∧ z3g a_n a q0x = r := by
  unfold z5t z3g
  rw [h]
  exact ⟨rfl, rfl⟩
noncomputable def z86 {R : Type} (x : Nat) (k_ : Bool → Option R) : Option R := (k_ (fcmp BinOp.eql FloatKind.f32 (fop BinOp.sub FloatKind.f32 x x) 0))
noncomputable def z85 (x : Nat) : Option (Bool) := z86 x (fun c0_ => some c0_)
theorem zcw {R R' : Type} (o : Option R → Option R') (h0 : o none = none) (x : Nat) (k_ : Bool → Option R) : z86 x (fun c0_ => o (k_ c0_)) = o (z86 x k_) := by
  unfold z86
  repeat (first | refine grd_out h0 ?_ | refine br_out ?_ ?_ | rfl | exact h0.symm)
noncomputable def z5l (x : Nat) : Bool := (z85 x).isSome
noncomputable def z59 (x : Nat) : Bool := ((z85 x).getD default)
theorem z98 {x : Nat} {r : Bool} (h : z85 x = some r) : z5l x = true ∧ z59 x = r := by
  unfold z5l z59
  rw [h]
  exact ⟨rfl, rfl⟩
noncomputable def z7c {R : Type} (x : Nat) (k_ : Bool → Option R) : Option R := (k_ (fcmp BinOp.eql FloatKind.f32 (fop BinOp.sub FloatKind.f32 x x) 0))
noncomputable def z7d (x : Nat) : Option (Bool) := z7c x (fun c0_ => some c0_)
theorem zce {R R' : Type} (o : Option R → Option R') (h0 : o none = none) (x : Nat) (k_ : Bool → Option R) : z7c x (fun c0_ => o (k_ c0_)) = o (z7c x k_) := by
  unfold z7c
  repeat (first | refine grd_out h0 ?_ | refine br_out ?_ ?_ | rfl | exact h0.symm)
noncomputable def z4l (x : Nat) : Bool := (z7d x).isSome
noncomputable def z4f (x : Nat) : Bool := ((z7d x).getD default)
theorem z8f {x : Nat} {r : Bool} (h : z7d x = some r) : z4l x = true ∧ z4f x = r := by
  unfold z4l z4f
  rw [h]
  exact ⟨rfl, rfl⟩
noncomputable def z6t {R : Type} (x : Nat) (low : Nat) (q15 : Nat) (k_ : Bool → Option R) : Option R := (br (fcmp BinOp.geq FloatKind.f32 x low) (k_ (fcmp BinOp.leq FloatKind.f32 x q15)) (k_ Bool.false))
noncomputable def z6s (x : Nat) (low : Nat) (q15 : Nat) : Option (Bool) := z6t x low q15 (fun c0_ => some c0_)
theorem zcv {R R' : Type} (o : Option R → Option R') (h0 : o none = none) (x : Nat) (low : Nat) (q15 : Nat) (k_ : Bool → Option R) : z6t x low q15 (fun c0_ => o (k_ c0_)) = o (z6t x low q15 k_) := by
  unfold z6t
  repeat (first | refine grd_out h0 ?_ | refine br_out ?_ ?_ | rfl | exact h0.symm)
noncomputable def z9m (x : Nat) (low : Nat) (q15 : Nat) : Bool := (z6s x low q15).isSome
noncomputable def z9c (x : Nat) (low : Nat) (q15 : Nat) : Bool := ((z6s x low q15).getD default)
theorem ze7 {x : Nat} {low : Nat} {q15 : Nat} {r : Bool} (h : z6s x low q15 = some r) : z9m x low q15 = true ∧ z9c x low q15 = r := by
  unfold z9m z9c
  rw [h]
  exact ⟨rfl, rfl⟩
noncomputable def z9x {R : Type} (a : Nat) (b : Nat) (q14 : Nat) (k_ : Nat → Option R) : Option R := (k_ (fop BinOp.add FloatKind.f32 a (fop BinOp.mul FloatKind.f32 q14 (fop BinOp.sub FloatKind.f32 b a))))
noncomputable def z9y (a : Nat) (b : Nat) (q14 : Nat) : Option (Nat) := z9x a b q14 (fun c0_ => some c0_)
theorem zed {R R' : Type} (o : Option R → Option R') (h0 : o none = none) (a : Nat) (b : Nat) (q14 : Nat) (k_ : Nat → Option R) : z9x a b q14 (fun c0_ => o (k_ c0_)) = o (z9x a b q14 k_) := by
  unfold z9x
  repeat (first | refine grd_out h0 ?_ | refine br_out ?_ ?_ | rfl | exact h0.symm)
noncomputable def z9v (a : Nat) (b : Nat) (q14 : Nat) : Bool := (z9y a b q14).isSome
noncomputable def z9i (a : Nat) (b : Nat) (q14 : Nat) : Nat := ((z9y a b q14).getD default)
theorem zf0 {a : Nat} {b : Nat} {q14 : Nat} {r : Nat} (h : z9y a b q14 = some r) : z9v a b q14 = true ∧ z9i a b q14 = r := by
  unfold z9v z9i
  rw [h]
  exact ⟨rfl, rfl⟩
noncomputable def z69 {R : Type} (x : Nat) (k_ : Nat → Option R) : Option R := (grd (fcvB FloatKind.f64 FloatKind.f32 x) (k_ (fcvV FloatKind.f64 FloatKind.f32 x)))
noncomputable def z67 (x : Nat) : Option (Nat) := z69 x (fun c0_ => some c0_)
theorem zcd {R R' : Type} (o : Option R → Option R') (h0 : o none = none) (x : Nat) (k_ : Nat → Option R) : z69 x (fun c0_ => o (k_ c0_)) = o (z69 x k_) := by
  unfold z69
  repeat (first | refine grd_out h0 ?_ | refine br_out ?_ ?_ | rfl | exact h0.symm)
noncomputable def z9b (x : Nat) : Bool := (z67 x).isSome
noncomputable def z6w (x : Nat) : Nat := ((z67 x).getD default)
theorem zdf {x : Nat} {r : Nat} (h : z67 x = some r) : z9b x = true ∧ z6w x = r := by
  unfold z9b z6w
  rw [h]
  exact ⟨rfl, rfl⟩
noncomputable def z65 {R : Type} (q0f : Nat) (q0n : List Nat) (q0i : Nat) (q0o : List Nat) (q0l : Nat) (q0p : List Nat) (q0x : Int) (k_ : Int → Option R) : Option R := (grd (z5t q0f (pF q0n 0 (muN q0f 1)) q0x) (br (ltI (z3g q0f (pF q0n 0 (muN q0f 1)) q0x) 0) (k_ (Int.negSucc 0)) (grd (z5t q0i (pF q0o 0 (muN q0i 1)) (z3g q0f (pF q0n 0 (muN q0f 1)) q0x)) (br (ltI (z3g q0i (pF q0o 0 (muN q0i 1)) (z3g q0f (pF q0n 0 (muN q0f 1)) q0x)) 0) (k_ (Int.negSucc 0)) (grd (z5t q0l (pF q0p 0 (muN q0l 1)) (z3g q0i (pF q0o 0 (muN q0i 1)) (z3g q0f (pF q0n 0 (muN q0f 1)) q0x))) (br (ltI (z3g q0l (pF q0p 0 (muN q0l 1)) (z3g q0i (pF q0o 0 (muN q0i 1)) (z3g q0f (pF q0n 0 (muN q0f 1)) q0x))) 0) (k_ (Int.negSucc 0)) (k_ (z3g q0l (pF q0p 0 (muN q0l 1)) (z3g q0i (pF q0o 0 (muN q0i 1)) (z3g q0f (pF q0n 0 (muN q0f 1)) q0x))))))))))
noncomputable def z6i (q0f : Nat) (q0n : List Nat) (q0i : Nat) (q0o : List Nat) (q0l : Nat) (q0p : List Nat) (q0x : Int) : Option (Int) := z65 q0f q0n q0i q0o q0l q0p q0x (fun c0_ => some c0_)
theorem zcc {R R' : Type} (o : Option R → Option R') (h0 : o none = none) (q0f : Nat) (q0n : List Nat) (q0i : Nat) (q0o : List Nat) (q0l : Nat) (q0p : List Nat) (q0x : Int) (k_ : Int → Option R) : z65 q0f q0n q0i q0o q0l q0p q0x (fun c0_ => o (k_ c0_)) = o (z65 q0f q0n q0i q0o q0l q0p q0x k_) := by
  unfold z65
  repeat (first | refine grd_out h0 ?_ | refine br_out ?_ ?_ | rfl | exact h0.symm)
noncomputable def z7g (q0f : Nat) (q0n : List Nat) (q0i : Nat) (q0o : List Nat) (q0l : Nat) (q0p : List Nat) (q0x : Int) : Bool := (z6i q0f q0n q0i q0o q0l q0p q0x).isSome
noncomputable def z6x (q0f : Nat) (q0n : List Nat) (q0i : Nat) (q0o : List Nat) (q0l : Nat) (q0p : List Nat) (q0x : Int) : Int := ((z6i q0f q0n q0i q0o q0l q0p q0x).getD default)
theorem zdl {q0f : Nat} {q0n : List Nat} {q0i : Nat} {q0o : List Nat} {q0l : Nat} {q0p : List Nat} {q0x : Int} {r : Int} (h : z6i q0f q0n q0i q0o q0l q0p q0x = some r) : z7g q0f q0n q0i q0o q0l q0p q0x = true ∧ z6x q0f q0n q0i q0o q0l q0p q0x = r := by
  unfold z7g z6x
  rw [h]
  exact ⟨rfl, rfl⟩
noncomputable def z6d {R : Type} (x : Nat) (k_ : Nat → Bool → Option R) : Option R := (grd (z4l x) (br (bnot (z4f x)) (k_ 0 Bool.false) (k_ x Bool.true)))
noncomputable def z5a (x : Nat) : Option (Nat × Bool) := z6d x (fun c0_ c1_ => some (c0_, c1_))
theorem zcn {R R' : Type} (o : Option R → Option R') (h0 : o none = none) (x : Nat) (k_ : Nat → Bool → Option R) : z6d x (fun c0_ c1_ => o (k_ c0_ c1_)) = o (z6d x k_) := by
  unfold z6d
  repeat (first | refine grd_out h0 ?_ | refine br_out ?_ ?_ | rfl | exact h0.symm)
noncomputable def z97 (x : Nat) : Bool := (z5a x).isSome
noncomputable def z8l (x : Nat) : Nat := ((z5a x).getD default).1
noncomputable def z8j (x : Nat) : Bool := ((z5a x).getD default).2
theorem zdv {x : Nat} {r : Nat × Bool} (h : z5a x = some r) : z97 x = true ∧ z8l x = r.1 ∧ z8j x = r.2 := by
  unfold z97 z8l z8j
  rw [h]
  exact ⟨rfl, rfl, rfl⟩
noncomputable def z77 {R : Type} (x : Nat) (k_ : Nat → Bool → Option R) : Option R := (grd (z5l x) (br (bnot (z59 x)) (k_ 0 Bool.false) (k_ x Bool.true)))
noncomputable def z6g (x : Nat) : Option (Nat × Bool) := z77 x (fun c0_ c1_ => some (c0_, c1_))
theorem zda {R R' : Type} (o : Option R → Option R') (h0 : o none = none) (x : Nat) (k_ : Nat → Bool → Option R) : z77 x (fun c0_ c1_ => o (k_ c0_ c1_)) = o (z77 x k_) := by
  unfold z77
  repeat (first | refine grd_out h0 ?_ | refine br_out ?_ ?_ | rfl | exact h0.symm)
noncomputable def za8 (x : Nat) : Bool := (z6g x).isSome
noncomputable def z9q (x : Nat) : Nat := ((z6g x).getD default).1
noncomputable def z9p (x : Nat) : Bool := ((z6g x).getD default).2
theorem zeo {x : Nat} {r : Nat × Bool} (h : z6g x = some r) : za8 x = true ∧ z9q x = r.1 ∧ z9p x = r.2 := by
  unfold za8 z9q z9p
  rw [h]
  exact ⟨rfl, rfl, rfl⟩
noncomputable def z6p {R : Type} (x : Nat) (k_ : Bool → Option R) : Option R := (grd (z4l x) (br (z4f x) (k_ (fcmp BinOp.geq FloatKind.f32 x 0)) (k_ Bool.false)))
noncomputable def z6q (x : Nat) : Option (Bool) := z6p x (fun c0_ => some c0_)
theorem zcz {R R' : Type} (o : Option R → Option R') (h0 : o none = none) (x : Nat) (k_ : Bool → Option R) : z6p x (fun c0_ => o (k_ c0_)) = o (z6p x k_) := by
  unfold z6p
  repeat (first | refine grd_out h0 ?_ | refine br_out ?_ ?_ | rfl | exact h0.symm)
noncomputable def z5p (x : Nat) : Bool := (z6q x).isSome
noncomputable def z5b (x : Nat) : Bool := ((z6q x).getD default)
theorem zeb {x : Nat} {r : Bool} (h : z6q x = some r) : z5p x = true ∧ z5b x = r := by
  unfold z5p z5b
  rw [h]
  exact ⟨rfl, rfl⟩
noncomputable def z7b {R : Type} (x : Nat) (k_ : Bool → Option R) : Option R := (grd (z5l x) (br (z59 x) (k_ (fcmp BinOp.geq FloatKind.f32 x 0)) (k_ Bool.false)))
noncomputable def z75 (x : Nat) : Option (Bool) := z7b x (fun c0_ => some c0_)
theorem zdb {R R' : Type} (o : Option R → Option R') (h0 : o none = none) (x : Nat) (k_ : Bool → Option R) : z7b x (fun c0_ => o (k_ c0_)) = o (z7b x k_) := by
  unfold z7b
  repeat (first | refine grd_out h0 ?_ | refine br_out ?_ ?_ | rfl | exact h0.symm)
noncomputable def zaa (x : Nat) : Bool := (z75 x).isSome
noncomputable def z9n (x : Nat) : Bool := ((z75 x).getD default)
theorem zei {x : Nat} {r : Bool} (h : z75 x = some r) : zaa x = true ∧ z9n x = r := by
  unfold zaa z9n
  rw [h]
  exact ⟨rfl, rfl⟩
noncomputable def z5e {R : Type} (x : Nat) (k_ : Bool → Option R) : Option R := (grd (z5l x) (k_ (bnot (z59 x))))
noncomputable def z5d (x : Nat) : Option (Bool) := z5e x (fun c0_ => some c0_)
theorem zbs {R R' : Type} (o : Option R → Option R') (h0 : o none = none) (x : Nat) (k_ : Bool → Option R) : z5e x (fun c0_ => o (k_ c0_)) = o (z5e x k_) := by
  unfold z5e
  repeat (first | refine grd_out h0 ?_ | refine br_out ?_ ?_ | rfl | exact h0.symm)
noncomputable def z84 (x : Nat) : Bool := (z5d x).isSome
noncomputable def z7i (x : Nat) : Bool := ((z5d x).getD default)
theorem zct {x : Nat} {r : Bool} (h : z5d x = some r) : z84 x = true ∧ z7i x = r := by
  unfold z84 z7i
  rw [h]
  exact ⟨rfl, rfl⟩
noncomputable def z47 {R : Type} (an : Nat) (q13 : Nat) (b0 : List Nat) (i : Int) (b1 : List Nat) (kn_ : Int → (List Nat) → Option R) (k0_ : Int → Bool → (List Nat) → Option R) : Option R := (br (ltI i (Int.ofNat an)) (grd (okIx i an) (grd (okIx i q13) (kn_ (addI IntKind.i64 i 1) (sF b1 (ixO 0 i 1) (gF b0 (ixO 0 i 1)))))) (k0_ i (ltI i (Int.ofNat an)) b1))
theorem zb5 {R R' : Type} (o : Option R → Option R') (h0 : o none = none) (an : Nat) (q13 : Nat) (b0 : List Nat) (i : Int) (b1 : List Nat) (kn_ : Int → (List Nat) → Option R) (k0_ : Int → Bool → (List Nat) → Option R) : z47 an q13 b0 i b1 (fun i' b1' => o (kn_ i' b1')) (fun c0_ c1_ c2_ => o (k0_ c0_ c1_ c2_)) = o (z47 an q13 b0 i b1 kn_ k0_) := by
  unfold z47
  repeat (first | refine grd_out h0 ?_ | refine br_out ?_ ?_ | rfl | exact h0.symm)
noncomputable def z3q (an : Nat) (q13 : Nat) (b0 : List Nat) : Nat → Int → (List Nat) → Option ((Int × Bool × (List Nat)))
  | 0, _, _ => none
  | n + 1, i, b1 => z47 an q13 b0  i b1  (fun i' b1' => z3q an q13 b0 n i' b1') (fun c0_ c1_ c2_ => some (c0_, c1_, c2_))
theorem z9l (an : Nat) (q13 : Nat) (b0 : List Nat) (n : Nat) (i : Int) (b1 : List Nat) : z3q an q13 b0 (n + 1) i b1 = z47 an q13 b0  i b1  (fun i' b1' => z3q an q13 b0 n i' b1') (fun c0_ c1_ c2_ => some (c0_, c1_, c2_)) := rfl
noncomputable def z5o (an : Nat) (q13 : Nat) (b0 : List Nat) (i : Int) (b1 : List Nat) : Bool := (z3q an q13 b0 big i b1).isSome
noncomputable def z7m (an : Nat) (q13 : Nat) (b0 : List Nat) (i : Int) (b1 : List Nat) : Int := ((z3q an q13 b0 big i b1).getD default).1
noncomputable def z7n (an : Nat) (q13 : Nat) (b0 : List Nat) (i : Int) (b1 : List Nat) : Bool := ((z3q an q13 b0 big i b1).getD default).2.1
noncomputable def z50 (an : Nat) (q13 : Nat) (b0 : List Nat) (i : Int) (b1 : List Nat) : List Nat := ((z3q an q13 b0 big i b1).getD default).2.2
theorem zbt {an : Nat} {q13 : Nat} {b0 : List Nat} {i : Int} {b1 : List Nat} {m : Nat} {r : Int × Bool × (List Nat)} (hm : m = big) (h : z3q an q13 b0 m i b1 = some r) : z5o an q13 b0 i b1 = true ∧ z7m an q13 b0 i b1 = r.1 ∧ z7n an q13 b0 i b1 = r.2.1 ∧ z50 an q13 b0 i b1 = r.2.2 := by
  subst hm
  unfold z5o z7m z7n z50
  rw [h]
  exact ⟨rfl, rfl, rfl, rfl⟩
noncomputable def z5u {R : Type} (a_n : Nat) (a : List Nat) (k_ : Nat → (List Nat) → Option R) : Option R := (grd (okMk (Int.ofNat a_n) (Int.ofNat a_n) 4) (grd (z5o a_n (toN (Int.ofNat a_n)) a 0 (rF (muN (toN (Int.ofNat a_n)) 1))) (k_ (toN (Int.ofNat a_n)) (z50 a_n (toN (Int.ofNat a_n)) a 0 (rF (muN (toN (Int.ofNat a_n)) 1))))))
noncomputable def z51 (a_n : Nat) (a : List Nat) : Option (Nat × (List Nat)) := z5u a_n a (fun c0_ c1_ => some (c0_, c1_))
theorem zc1 {R R' : Type} (o : Option R → Option R') (h0 : o none = none) (a_n : Nat) (a : List Nat) (k_ : Nat → (List Nat) → Option R) : z5u a_n a (fun c0_ c1_ => o (k_ c0_ c1_)) = o (z5u a_n a k_) := by
  unfold z5u
  repeat (first | refine grd_out h0 ?_ | refine br_out ?_ ?_ | rfl | exact h0.symm)
noncomputable def z5r (a_n : Nat) (a : List Nat) : Bool := (z51 a_n a).isSome
noncomputable def z5g (a_n : Nat) (a : List Nat) : Nat := ((z51 a_n a).getD default).1
noncomputable def z5i (a_n : Nat) (a : List Nat) : List Nat := ((z51 a_n a).getD default).2
theorem z9z {a_n : Nat} {a : List Nat} {r : Nat × (List Nat)} (h : z51 a_n a = some r) : z5r a_n a = true ∧ z5g a_n a = r.1 ∧ z5i a_n a = r.2 := by
  unfold z5r z5g z5i
  rw [h]
  exact ⟨rfl, rfl, rfl⟩
noncomputable def z5v {R : Type} (x : Nat) (k_ : Bool → Option R) : Option R := (grd (zaa x) (k_ (bnot (z9n x))))
noncomputable def z60 (x : Nat) : Option (Bool) := z5v x (fun c0_ => some c0_)
theorem zbx {R R' : Type} (o : Option R → Option R') (h0 : o none = none) (x : Nat) (k_ : Bool → Option R) : z5v x (fun c0_ => o (k_ c0_)) = o (z5v x k_) := by
  unfold z5v
  repeat (first | refine grd_out h0 ?_ | refine br_out ?_ ?_ | rfl | exact h0.symm)
noncomputable def z8h (x : Nat) : Bool := (z60 x).isSome
noncomputable def z7x (x : Nat) : Bool := ((z60 x).getD default)
theorem zd2 {x : Nat} {r : Bool} (h : z60 x = some r) : z8h x = true ∧ z7x x = r := by
  unfold z8h z7x
  rw [h]
  exact ⟨rfl, rfl⟩
noncomputable def z48 {R : Type} (an : Nat) (bn : Nat) (b0 : List Nat) (b1 : List Nat) (i : Int) (kn_ : Int → Option R) (k0_ : Unit → Option R) (k1_ : Int → Bool → Option R) : Option R := (br (ltI i (Int.ofNat an)) (grd (okIx i an) (grd (okIx i bn) (grd (z7e (fcvV FloatKind.f32 FloatKind.f64 (gF b0 (ixO 0 i 1))) (fcvV FloatKind.f32 FloatKind.f64 (gF b1 (ixO 0 i 1)))) (br (bnot (z6v (fcvV FloatKind.f32 FloatKind.f64 (gF b0 (ixO 0 i 1))) (fcvV FloatKind.f32 FloatKind.f64 (gF b1 (ixO 0 i 1))))) (k0_ ()) (kn_ (addI IntKind.i64 i 1)))))) (k1_ i (ltI i (Int.ofNat an))))
theorem zb4 {R R' : Type} (o : Option R → Option R') (h0 : o none = none) (an : Nat) (bn : Nat) (b0 : List Nat) (b1 : List Nat) (i : Int) (kn_ : Int → Option R) (k0_ : Unit → Option R) (k1_ : Int → Bool → Option R) : z48 an bn b0 b1 i (fun i' => o (kn_ i')) (fun _ => o (k0_ ())) (fun c0_ c1_ => o (k1_ c0_ c1_)) = o (z48 an bn b0 b1 i kn_ k0_ k1_) := by
  unfold z48
  repeat (first | refine grd_out h0 ?_ | refine br_out ?_ ?_ | rfl | exact h0.symm)
noncomputable def z3r (an : Nat) (bn : Nat) (b0 : List Nat) (b1 : List Nat) : Nat → Int → Option ((Unit) ⊕ (Int × Bool))
  | 0, _ => none
  | n + 1, i => z48 an bn b0 b1  i  (fun i' => z3r an bn b0 b1 n i') (fun _ => some (Sum.inl ())) (fun c0_ c1_ => some (Sum.inr (c0_, c1_)))
theorem z9s (an : Nat) (bn : Nat) (b0 : List Nat) (b1 : List Nat) (n : Nat) (i : Int) : z3r an bn b0 b1 (n + 1) i = z48 an bn b0 b1  i  (fun i' => z3r an bn b0 b1 n i') (fun _ => some (Sum.inl ())) (fun c0_ c1_ => some (Sum.inr (c0_, c1_))) := rfl
noncomputable def z6z (an : Nat) (bn : Nat) (b0 : List Nat) (b1 : List Nat) (i : Int) : Bool := (z3r an bn b0 b1 big i).isSome
noncomputable def z6o (an : Nat) (bn : Nat) (b0 : List Nat) (b1 : List Nat) (i : Int) : Bool := oL (z3r an bn b0 b1 big i)
noncomputable def z7o (an : Nat) (bn : Nat) (b0 : List Nat) (b1 : List Nat) (i : Int) : Int := ((tR (z3r an bn b0 b1 big i)).getD default).1
noncomputable def z7r (an : Nat) (bn : Nat) (b0 : List Nat) (b1 : List Nat) (i : Int) : Bool := ((tR (z3r an bn b0 b1 big i)).getD default).2
theorem zbn {an : Nat} {bn : Nat} {b0 : List Nat} {b1 : List Nat} {i : Int} {m : Nat} {r : Int × Bool} (hm : m = big) (h : z3r an bn b0 b1 m i = some (Sum.inr r)) : z6z an bn b0 b1 i = true ∧ z6o an bn b0 b1 i = false ∧ z7o an bn b0 b1 i = r.1 ∧ z7r an bn b0 b1 i = r.2 := by
  subst hm
  unfold z6z z6o z7o z7r
  rw [h]
  exact ⟨rfl, rfl, rfl, rfl⟩
noncomputable def z6a {R : Type} (q0f : Nat) (q0n : List Nat) (q0i : Nat) (q0o : List Nat) (q0l : Nat) (q0p : List Nat) (k_ : Nat → Nat → Nat → (List Nat) → (List Nat) → (List Nat) → Option R) : Option R := (grd (z5r q0f (pF q0n 0 (muN q0f 1))) (grd (z5r q0i (pF q0o 0 (muN q0i 1))) (grd (z5r q0l (pF q0p 0 (muN q0l 1))) (k_ (z5g q0f (pF q0n 0 (muN q0f 1))) (z5g q0i (pF q0o 0 (muN q0i 1))) (z5g q0l (pF q0p 0 (muN q0l 1))) (z5i q0f (pF q0n 0 (muN q0f 1))) (z5i q0i (pF q0o 0 (muN q0i 1))) (z5i q0l (pF q0p 0 (muN q0l 1)))))))
noncomputable def z4c (q0f : Nat) (q0n : List Nat) (q0i : Nat) (q0o : List Nat) (q0l : Nat) (q0p : List Nat) : Option (Nat × Nat × Nat × (List Nat) × (List Nat) × (List Nat)) := z6a q0f q0n q0i q0o q0l q0p (fun c0_ c1_ c2_ c3_ c4_ c5_ => some (c0_, c1_, c2_, c3_, c4_, c5_))
theorem zc8 {R R' : Type} (o : Option R → Option R') (h0 : o none = none) (q0f : Nat) (q0n : List Nat) (q0i : Nat) (q0o : List Nat) (q0l : Nat) (q0p : List Nat) (k_ : Nat → Nat → Nat → (List Nat) → (List Nat) → (List Nat) → Option R) : z6a q0f q0n q0i q0o q0l q0p (fun c0_ c1_ c2_ c3_ c4_ c5_ => o (k_ c0_ c1_ c2_ c3_ c4_ c5_)) = o (z6a q0f q0n q0i q0o q0l q0p k_) := by
  unfold z6a
  repeat (first | refine grd_out h0 ?_ | refine br_out ?_ ?_ | rfl | exact h0.symm)
noncomputable def z5c (q0f : Nat) (q0n : List Nat) (q0i : Nat) (q0o : List Nat) (q0l : Nat) (q0p : List Nat) : Bool := (z4c q0f q0n q0i q0o q0l q0p).isSome
noncomputable def z2g (q0f : Nat) (q0n : List Nat) (q0i : Nat) (q0o : List Nat) (q0l : Nat) (q0p : List Nat) : Nat := ((z4c q0f q0n q0i q0o q0l q0p).getD default).1
noncomputable def z2e (q0f : Nat) (q0n : List Nat) (q0i : Nat) (q0o : List Nat) (q0l : Nat) (q0p : List Nat) : Nat := ((z4c q0f q0n q0i q0o q0l q0p).getD default).2.1
noncomputable def z2f (q0f : Nat) (q0n : List Nat) (q0i : Nat) (q0o : List Nat) (q0l : Nat) (q0p : List Nat) : Nat := ((z4c q0f q0n q0i q0o q0l q0p).getD default).2.2.1
noncomputable def z3d (q0f : Nat) (q0n : List Nat) (q0i : Nat) (q0o : List Nat) (q0l : Nat) (q0p : List Nat) : List Nat := ((z4c q0f q0n q0i q0o q0l q0p).getD default).2.2.2.1
noncomputable def z3e (q0f : Nat) (q0n : List Nat) (q0i : Nat) (q0o : List Nat) (q0l : Nat) (q0p : List Nat) : List Nat := ((z4c q0f q0n q0i q0o q0l q0p).getD default).2.2.2.2.1
noncomputable def z3f (q0f : Nat) (q0n : List Nat) (q0i : Nat) (q0o : List Nat) (q0l : Nat) (q0p : List Nat) : List Nat := ((z4c q0f q0n q0i q0o q0l q0p).getD default).2.2.2.2.2
theorem zdm {q0f : Nat} {q0n : List Nat} {q0i : Nat} {q0o : List Nat} {q0l : Nat} {q0p : List Nat} {r : Nat × Nat × Nat × (List Nat) × (List Nat) × (List Nat)} (h : z4c q0f q0n q0i q0o q0l q0p = some r) : z5c q0f q0n q0i q0o q0l q0p = true ∧ z2g q0f q0n q0i q0o q0l q0p = r.1 ∧ z2e q0f q0n q0i q0o q0l q0p = r.2.1 ∧ z2f q0f q0n q0i q0o q0l q0p = r.2.2.1 ∧ z3d q0f q0n q0i q0o q0l q0p = r.2.2.2.1 ∧ z3e q0f q0n q0i q0o q0l q0p = r.2.2.2.2.1 ∧ z3f q0f q0n q0i q0o q0l q0p = r.2.2.2.2.2 := by
  unfold z5c z2g z2e z2f z3d z3e z3f
  rw [h]
  exact ⟨rfl, rfl, rfl, rfl, rfl, rfl, rfl⟩
noncomputable def z5z {R : Type} (a_n : Nat) (a : List Nat) (b_n : Nat) (b : List Nat) (k_ : Bool → Option R) : Option R := (br (neI (Int.ofNat a_n) (Int.ofNat b_n)) (k_ Bool.false) (grd (z6z a_n b_n a b 0) (br (z6o a_n b_n a b 0) (k_ Bool.false) (k_ Bool.true))))
noncomputable def z5w (a_n : Nat) (a : List Nat) (b_n : Nat) (b : List Nat) : Option (Bool) := z5z a_n a b_n b (fun c0_ => some c0_)
theorem zbw {R R' : Type} (o : Option R → Option R') (h0 : o none = none) (a_n : Nat) (a : List Nat) (b_n : Nat) (b : List Nat) (k_ : Bool → Option R) : z5z a_n a b_n b (fun c0_ => o (k_ c0_)) = o (z5z a_n a b_n b k_) := by
  unfold z5z
  repeat (first | refine grd_out h0 ?_ | refine br_out ?_ ?_ | rfl | exact h0.symm)
noncomputable def z5q (a_n : Nat) (a : List Nat) (b_n : Nat) (b : List Nat) : Bool := (z5w a_n a b_n b).isSome
noncomputable def z5j (a_n : Nat) (a : List Nat) (b_n : Nat) (b : List Nat) : Bool := ((z5w a_n a b_n b).getD default)
theorem za2 {a_n : Nat} {a : List Nat} {b_n : Nat} {b : List Nat} {r : Bool} (h : z5w a_n a b_n b = some r) : z5q a_n a b_n b = true ∧ z5j a_n a b_n b = r := by
  unfold z5q z5j
  rw [h]
  exact ⟨rfl, rfl⟩
noncomputable def z4r {R : Type} (t3 : Int) (b0 : List Nat) (b1 : List Nat) (b2 : List Nat) (q0m : Nat) (q0r : Nat) (q0s : Nat) (t4 : Int) (kn_ : Int → Option R) (k0_ : Unit → Option R) (k1_ : Int → Bool → Option R) : Option R := (br (ltI t4 t3) (grd (okIx t4 q0m) (br (fcmp BinOp.geq FloatKind.f32 (gF b0 (ixO 0 t4 1)) 3204448256) (grd (okIx t4 q0m) (br (bnot (fcmp BinOp.leq FloatKind.f32 (gF b0 (ixO 0 t4 1)) 1056964608)) (k0_ ()) (br (ltI 0 t4) (grd (okIx t4 q0m) (grd (okIx (subI IntKind.i64 t4 1) q0m) (br (fcmp BinOp.leq FloatKind.f32 (gF b0 (ixO 0 t4 1)) (gF b0 (ixO 0 (subI IntKind.i64 t4 1) 1))) (k0_ ()) (grd (okIx t4 q0r) (grd (z4l (gF b1 (ixO 0 t4 1))) (br (bnot (z4f (gF b1 (ixO 0 t4 1)))) (k0_ ()) (grd (okIx t4 q0s) (grd (z5p (gF b2 (ixO 0 t4 1))) (br (bnot (z5b (gF b2 (ixO 0 t4 1)))) (k0_ ()) (kn_ (addI IntKind.i64 t4 1))))))))))) (grd (okIx t4 q0r) (grd (z4l (gF b1 (ixO 0 t4 1))) (br (bnot (z4f (gF b1 (ixO 0 t4 1)))) (k0_ ()) (grd (okIx t4 q0s) (grd (z5p (gF b2 (ixO 0 t4 1))) (br (bnot (z5b (gF b2 (ixO 0 t4 1)))) (k0_ ()) (kn_ (addI IntKind.i64 t4 1))))))))))) (br (bnot Bool.false) (k0_ ()) (br (ltI 0 t4) (grd (okIx t4 q0m) (grd (okIx (subI IntKind.i64 t4 1) q0m) (br (fcmp BinOp.leq FloatKind.f32 (gF b0 (ixO 0 t4 1)) (gF b0 (ixO 0 (subI IntKind.i64 t4 1) 1))) (k0_ ()) (grd (okIx t4 q0r) (grd (z4l (gF b1 (ixO 0 t4 1))) (br (bnot (z4f (gF b1 (ixO 0 t4 1)))) (k0_ ()) (grd (okIx t4 q0s) (grd (z5p (gF b2 (ixO 0 t4 1))) (br (bnot (z5b (gF b2 (ixO 0 t4 1)))) (k0_ ()) (kn_ (addI IntKind.i64 t4 1))))))))))) (grd (okIx t4 q0r) (grd (z4l (gF b1 (ixO 0 t4 1))) (br (bnot (z4f (gF b1 (ixO 0 t4 1)))) (k0_ ()) (grd (okIx t4 q0s) (grd (z5p (gF b2 (ixO 0 t4 1))) (br (bnot (z5b (gF b2 (ixO 0 t4 1)))) (k0_ ()) (kn_ (addI IntKind.i64 t4 1)))))))))))) (k1_ t4 (ltI t4 t3)))
theorem zcx {R R' : Type} (o : Option R → Option R') (h0 : o none = none) (t3 : Int) (b0 : List Nat) (b1 : List Nat) (b2 : List Nat) (q0m : Nat) (q0r : Nat) (q0s : Nat) (t4 : Int) (kn_ : Int → Option R) (k0_ : Unit → Option R) (k1_ : Int → Bool → Option R) : z4r t3 b0 b1 b2 q0m q0r q0s t4 (fun t4' => o (kn_ t4')) (fun _ => o (k0_ ())) (fun c0_ c1_ => o (k1_ c0_ c1_)) = o (z4r t3 b0 b1 b2 q0m q0r q0s t4 kn_ k0_ k1_) := by
  unfold z4r
  repeat (first | refine grd_out h0 ?_ | refine br_out ?_ ?_ | rfl | exact h0.symm)
noncomputable def z42 (t3 : Int) (b0 : List Nat) (b1 : List Nat) (b2 : List Nat) (q0m : Nat) (q0r : Nat) (q0s : Nat) : Nat → Int → Option ((Unit) ⊕ (Int × Bool))
  | 0, _ => none
  | n + 1, t4 => z4r t3 b0 b1 b2 q0m q0r q0s  t4  (fun t4' => z42 t3 b0 b1 b2 q0m q0r q0s n t4') (fun _ => some (Sum.inl ())) (fun c0_ c1_ => some (Sum.inr (c0_, c1_)))
theorem zao (t3 : Int) (b0 : List Nat) (b1 : List Nat) (b2 : List Nat) (q0m : Nat) (q0r : Nat) (q0s : Nat) (n : Nat) (t4 : Int) : z42 t3 b0 b1 b2 q0m q0r q0s (n + 1) t4 = z4r t3 b0 b1 b2 q0m q0r q0s  t4  (fun t4' => z42 t3 b0 b1 b2 q0m q0r q0s n t4') (fun _ => some (Sum.inl ())) (fun c0_ c1_ => some (Sum.inr (c0_, c1_))) := rfl
noncomputable def z52 (t3 : Int) (b0 : List Nat) (b1 : List Nat) (b2 : List Nat) (q0m : Nat) (q0r : Nat) (q0s : Nat) (t4 : Int) : Bool := (z42 t3 b0 b1 b2 q0m q0r q0s big t4).isSome
noncomputable def z4t (t3 : Int) (b0 : List Nat) (b1 : List Nat) (b2 : List Nat) (q0m : Nat) (q0r : Nat) (q0s : Nat) (t4 : Int) : Bool := oL (z42 t3 b0 b1 b2 q0m q0r q0s big t4)
noncomputable def za0 (t3 : Int) (b0 : List Nat) (b1 : List Nat) (b2 : List Nat) (q0m : Nat) (q0r : Nat) (q0s : Nat) (t4 : Int) : Int := ((tR (z42 t3 b0 b1 b2 q0m q0r q0s big t4)).getD default).1
noncomputable def za1 (t3 : Int) (b0 : List Nat) (b1 : List Nat) (b2 : List Nat) (q0m : Nat) (q0r : Nat) (q0s : Nat) (t4 : Int) : Bool := ((tR (z42 t3 b0 b1 b2 q0m q0r q0s big t4)).getD default).2
theorem zdr {t3 : Int} {b0 : List Nat} {b1 : List Nat} {b2 : List Nat} {q0m : Nat} {q0r : Nat} {q0s : Nat} {t4 : Int} {m : Nat} {r : Unit} (hm : m = big) (h : z42 t3 b0 b1 b2 q0m q0r q0s m t4 = some (Sum.inl r)) : z52 t3 b0 b1 b2 q0m q0r q0s t4 = true ∧ z4t t3 b0 b1 b2 q0m q0r q0s t4 = true := by
  subst hm
  unfold z52 z4t
  rw [h]
  exact ⟨rfl, rfl⟩
theorem zdg {t3 : Int} {b0 : List Nat} {b1 : List Nat} {b2 : List Nat} {q0m : Nat} {q0r : Nat} {q0s : Nat} {t4 : Int} {m : Nat} {r : Int × Bool} (hm : m = big) (h : z42 t3 b0 b1 b2 q0m q0r q0s m t4 = some (Sum.inr r)) : z52 t3 b0 b1 b2 q0m q0r q0s t4 = true ∧ z4t t3 b0 b1 b2 q0m q0r q0s t4 = false ∧ za0 t3 b0 b1 b2 q0m q0r q0s t4 = r.1 ∧ za1 t3 b0 b1 b2 q0m q0r q0s t4 = r.2 := by
  subst hm
  unfold z52 z4t za0 za1
  rw [h]
  exact ⟨rfl, rfl, rfl, rfl⟩
noncomputable def z2s {R : Type} (sn : Nat) (t7 : Int) (b0 : List Nat) (t8 : Int) (kn_ : Int → Option R) (k0_ : Int → Option R) (k1_ : Int → Bool → Option R) : Option R := (br (ltI t8 t7) (grd (okIx t8 sn) (grd (z84 (gF b0 (ixO 0 t8 1))) (br (z7i (gF b0 (ixO 0 t8 1))) (k0_ t8) (kn_ (addI IntKind.i64 t8 1))))) (k1_ t8 (ltI t8 t7)))
theorem z7p {R R' : Type} (o : Option R → Option R') (h0 : o none = none) (sn : Nat) (t7 : Int) (b0 : List Nat) (t8 : Int) (kn_ : Int → Option R) (k0_ : Int → Option R) (k1_ : Int → Bool → Option R) : z2s sn t7 b0 t8 (fun t8' => o (kn_ t8')) (fun c0_ => o (k0_ c0_)) (fun c0_ c1_ => o (k1_ c0_ c1_)) = o (z2s sn t7 b0 t8 kn_ k0_ k1_) := by
  unfold z2s
  repeat (first | refine grd_out h0 ?_ | refine br_out ?_ ?_ | rfl | exact h0.symm)
noncomputable def z18 (sn : Nat) (t7 : Int) (b0 : List Nat) : Nat → Int → Option ((Int) ⊕ (Int × Bool))
  | 0, _ => none
  | n + 1, t8 => z2s sn t7 b0  t8  (fun t8' => z18 sn t7 b0 n t8') (fun c0_ => some (Sum.inl c0_)) (fun c0_ c1_ => some (Sum.inr (c0_, c1_)))
theorem z4u (sn : Nat) (t7 : Int) (b0 : List Nat) (n : Nat) (t8 : Int) : z18 sn t7 b0 (n + 1) t8 = z2s sn t7 b0  t8  (fun t8' => z18 sn t7 b0 n t8') (fun c0_ => some (Sum.inl c0_)) (fun c0_ c1_ => some (Sum.inr (c0_, c1_))) := rfl
noncomputable def z3c (sn : Nat) (t7 : Int) (b0 : List Nat) (t8 : Int) : Bool := (z18 sn t7 b0 big t8).isSome
noncomputable def z38 (sn : Nat) (t7 : Int) (b0 : List Nat) (t8 : Int) : Bool := oL (z18 sn t7 b0 big t8)
noncomputable def z3w (sn : Nat) (t7 : Int) (b0 : List Nat) (t8 : Int) : Int := ((tL (z18 sn t7 b0 big t8)).getD default)
noncomputable def z4h (sn : Nat) (t7 : Int) (b0 : List Nat) (t8 : Int) : Int := ((tR (z18 sn t7 b0 big t8)).getD default).1
noncomputable def z4i (sn : Nat) (t7 : Int) (b0 : List Nat) (t8 : Int) : Bool := ((tR (z18 sn t7 b0 big t8)).getD default).2
theorem z88 {sn : Nat} {t7 : Int} {b0 : List Nat} {t8 : Int} {m : Nat} {r : Int} (hm : m = big) (h : z18 sn t7 b0 m t8 = some (Sum.inl r)) : z3c sn t7 b0 t8 = true ∧ z38 sn t7 b0 t8 = true ∧ z3w sn t7 b0 t8 = r := by
  subst hm
  unfold z3c z38 z3w
  rw [h]
  exact ⟨rfl, rfl, rfl⟩
theorem z87 {sn : Nat} {t7 : Int} {b0 : List Nat} {t8 : Int} {m : Nat} {r : Int × Bool} (hm : m = big) (h : z18 sn t7 b0 m t8 = some (Sum.inr r)) : z3c sn t7 b0 t8 = true ∧ z38 sn t7 b0 t8 = false ∧ z4h sn t7 b0 t8 = r.1 ∧ z4i sn t7 b0 t8 = r.2 := by
  subst hm
  unfold z3c z38 z4h z4i
  rw [h]
  exact ⟨rfl, rfl, rfl, rfl⟩
noncomputable def z6e {R : Type} (q0f : Nat) (q0n : List Nat) (q0i : Nat) (q0o : List Nat) (q0l : Nat) (q0p : List Nat) (q0u : Nat) (q0y : List Nat) (q0w : Nat) (q11 : List Nat) (q0v : Nat) (q12 : List Nat) (k_ : Bool → Option R) : Option R := (grd (z5q q0f (pF q0n 0 (muN q0f 1)) q0u (pF q0y 0 (muN q0u 1))) (br (bnot (z5j q0f (pF q0n 0 (muN q0f 1)) q0u (pF q0y 0 (muN q0u 1)))) (k_ Bool.false) (grd (z5q q0i (pF q0o 0 (muN q0i 1)) q0w (pF q11 0 (muN q0w 1))) (br (bnot (z5j q0i (pF q0o 0 (muN q0i 1)) q0w (pF q11 0 (muN q0w 1)))) (k_ Bool.false) (grd (z5q q0l (pF q0p 0 (muN q0l 1)) q0v (pF q12 0 (muN q0v 1))) (br (bnot (z5j q0l (pF q0p 0 (muN q0l 1)) q0v (pF q12 0 (muN q0v 1)))) (k_ Bool.false) (k_ Bool.true)))))))
noncomputable def z6h (q0f : Nat) (q0n : List Nat) (q0i : Nat) (q0o : List Nat) (q0l : Nat) (q0p : List Nat) (q0u : Nat) (q0y : List Nat) (q0w : Nat) (q11 : List Nat) (q0v : Nat) (q12 : List Nat) : Option (Bool) := z6e q0f q0n q0i q0o q0l q0p q0u q0y q0w q11 q0v q12 (fun c0_ => some c0_)
theorem zcj {R R' : Type} (o : Option R → Option R') (h0 : o none = none) (q0f : Nat) (q0n : List Nat) (q0i : Nat) (q0o : List Nat) (q0l : Nat) (q0p : List Nat) (q0u : Nat) (q0y : List Nat) (q0w : Nat) (q11 : List Nat) (q0v : Nat) (q12 : List Nat) (k_ : Bool → Option R) : z6e q0f q0n q0i q0o q0l q0p q0u q0y q0w q11 q0v q12 (fun c0_ => o (k_ c0_)) = o (z6e q0f q0n q0i q0o q0l q0p q0u q0y q0w q11 q0v q12 k_) := by
  unfold z6e
  repeat (first | refine grd_out h0 ?_ | refine br_out ?_ ?_ | rfl | exact h0.symm)
noncomputable def z7f (q0f : Nat) (q0n : List Nat) (q0i : Nat) (q0o : List Nat) (q0l : Nat) (q0p : List Nat) (q0u : Nat) (q0y : List Nat) (q0w : Nat) (q11 : List Nat) (q0v : Nat) (q12 : List Nat) : Bool := (z6h q0f q0n q0i q0o q0l q0p q0u q0y q0w q11 q0v q12).isSome
noncomputable def z6y (q0f : Nat) (q0n : List Nat) (q0i : Nat) (q0o : List Nat) (q0l : Nat) (q0p : List Nat) (q0u : Nat) (q0y : List Nat) (q0w : Nat) (q11 : List Nat) (q0v : Nat) (q12 : List Nat) : Bool := ((z6h q0f q0n q0i q0o q0l q0p q0u q0y q0w q11 q0v q12).getD default)
theorem zdj {q0f : Nat} {q0n : List Nat} {q0i : Nat} {q0o : List Nat} {q0l : Nat} {q0p : List Nat} {q0u : Nat} {q0y : List Nat} {q0w : Nat} {q11 : List Nat} {q0v : Nat} {q12 : List Nat} {r : Bool} (h : z6h q0f q0n q0i q0o q0l q0p q0u q0y q0w q11 q0v q12 = some r) : z7f q0f q0n q0i q0o q0l q0p q0u q0y q0w q11 q0v q12 = true ∧ z6y q0f q0n q0i q0o q0l q0p q0u q0y q0w q11 q0v q12 = r := by
  unfold z7f z6y
  rw [h]
  exact ⟨rfl, rfl⟩
noncomputable def z8w {R : Type} (q00 : Nat) (q01 : List Nat) (q09 : Nat) (q0a : List Nat) (q08 : Nat) (q0b : List Nat) (k_ : Bool → Option R) : Option R := (br (ltI (Int.ofNat q00) 2) (k_ Bool.false) (br (ltI 24 (Int.ofNat q00)) (k_ Bool.false) (br (neI (Int.ofNat q09) (Int.ofNat q00)) (k_ Bool.false) (br (neI (Int.ofNat q08) (Int.ofNat q00)) (k_ Bool.false) (grd (z52 (Int.ofNat q00) q01 q0a q0b q00 q09 q08 0) (br (z4t (Int.ofNat q00) q01 q0a q0b q00 q09 q08 0) (k_ Bool.false) (k_ Bool.true)))))))
noncomputable def z8z (q00 : Nat) (q01 : List Nat) (q09 : Nat) (q0a : List Nat) (q08 : Nat) (q0b : List Nat) : Option (Bool) := z8w q00 q01 q09 q0a q08 q0b (fun c0_ => some c0_)
theorem zdz {R R' : Type} (o : Option R → Option R') (h0 : o none = none) (q00 : Nat) (q01 : List Nat) (q09 : Nat) (q0a : List Nat) (q08 : Nat) (q0b : List Nat) (k_ : Bool → Option R) : z8w q00 q01 q09 q0a q08 q0b (fun c0_ => o (k_ c0_)) = o (z8w q00 q01 q09 q0a q08 q0b k_) := by
  unfold z8w
  repeat (first | refine grd_out h0 ?_ | refine br_out ?_ ?_ | rfl | exact h0.symm)
noncomputable def zan (q00 : Nat) (q01 : List Nat) (q09 : Nat) (q0a : List Nat) (q08 : Nat) (q0b : List Nat) : Bool := (z8z q00 q01 q09 q0a q08 q0b).isSome
noncomputable def zah (q00 : Nat) (q01 : List Nat) (q09 : Nat) (q0a : List Nat) (q08 : Nat) (q0b : List Nat) : Bool := ((z8z q00 q01 q09 q0a q08 q0b).getD default)
theorem zf2 {q00 : Nat} {q01 : List Nat} {q09 : Nat} {q0a : List Nat} {q08 : Nat} {q0b : List Nat} {r : Bool} (h : z8z q00 q01 q09 q0a q08 q0b = some r) : zan q00 q01 q09 q0a q08 q0b = true ∧ zah q00 q01 q09 q0a q08 q0b = r := by
  unfold zan zah
  rw [h]
  exact ⟨rfl, rfl⟩
noncomputable def z3l {R : Type} (s_n : Nat) (s : List Nat) (k_ : Int → Option R) : Option R := (grd (z3c s_n (Int.ofNat s_n) s 0) (br (z38 s_n (Int.ofNat s_n) s 0) (k_ (z3w s_n (Int.ofNat s_n) s 0)) (k_ (Int.negSucc 0))))
noncomputable def z3k (s_n : Nat) (s : List Nat) : Option (Int) := z3l s_n s (fun c0_ => some c0_)
theorem z8d {R R' : Type} (o : Option R → Option R') (h0 : o none = none) (s_n : Nat) (s : List Nat) (k_ : Int → Option R) : z3l s_n s (fun c0_ => o (k_ c0_)) = o (z3l s_n s k_) := by
  unfold z3l
  repeat (first | refine grd_out h0 ?_ | refine br_out ?_ ?_ | rfl | exact h0.symm)
noncomputable def z4a (s_n : Nat) (s : List Nat) : Bool := (z3k s_n s).isSome
noncomputable def z46 (s_n : Nat) (s : List Nat) : Int := ((z3k s_n s).getD default)
theorem z9f {s_n : Nat} {s : List Nat} {r : Int} (h : z3k s_n s = some r) : z4a s_n s = true ∧ z46 s_n s = r := by
  unfold z4a z46
  rw [h]
  exact ⟨rfl, rfl⟩
noncomputable def z2t {R : Type} (sn : Nat) (t7 : Int) (b0 : List Nat) (t8 : Int) (kn_ : Int → Option R) (k0_ : Int → Option R) (k1_ : Int → Bool → Option R) : Option R := (br (ltI t8 t7) (grd (okIx t8 sn) (grd (z8h (gF b0 (ixO 0 t8 1))) (br (z7x (gF b0 (ixO 0 t8 1))) (k0_ t8) (kn_ (addI IntKind.i64 t8 1))))) (k1_ t8 (ltI t8 t7)))
theorem z81 {R R' : Type} (o : Option R → Option R') (h0 : o none = none) (sn : Nat) (t7 : Int) (b0 : List Nat) (t8 : Int) (kn_ : Int → Option R) (k0_ : Int → Option R) (k1_ : Int → Bool → Option R) : z2t sn t7 b0 t8 (fun t8' => o (kn_ t8')) (fun c0_ => o (k0_ c0_)) (fun c0_ c1_ => o (k1_ c0_ c1_)) = o (z2t sn t7 b0 t8 kn_ k0_ k1_) := by
  unfold z2t
  repeat (first | refine grd_out h0 ?_ | refine br_out ?_ ?_ | rfl | exact h0.symm)
noncomputable def z1e (sn : Nat) (t7 : Int) (b0 : List Nat) : Nat → Int → Option ((Int) ⊕ (Int × Bool))
  | 0, _ => none
  | n + 1, t8 => z2t sn t7 b0  t8  (fun t8' => z1e sn t7 b0 n t8') (fun c0_ => some (Sum.inl c0_)) (fun c0_ c1_ => some (Sum.inr (c0_, c1_)))
theorem z4z (sn : Nat) (t7 : Int) (b0 : List Nat) (n : Nat) (t8 : Int) : z1e sn t7 b0 (n + 1) t8 = z2t sn t7 b0  t8  (fun t8' => z1e sn t7 b0 n t8') (fun c0_ => some (Sum.inl c0_)) (fun c0_ c1_ => some (Sum.inr (c0_, c1_))) := rfl
noncomputable def z3i (sn : Nat) (t7 : Int) (b0 : List Nat) (t8 : Int) : Bool := (z1e sn t7 b0 big t8).isSome
noncomputable def z3b (sn : Nat) (t7 : Int) (b0 : List Nat) (t8 : Int) : Bool := oL (z1e sn t7 b0 big t8)
noncomputable def z3y (sn : Nat) (t7 : Int) (b0 : List Nat) (t8 : Int) : Int := ((tL (z1e sn t7 b0 big t8)).getD default)
noncomputable def z4j (sn : Nat) (t7 : Int) (b0 : List Nat) (t8 : Int) : Int := ((tR (z1e sn t7 b0 big t8)).getD default).1
noncomputable def z4k (sn : Nat) (t7 : Int) (b0 : List Nat) (t8 : Int) : Bool := ((tR (z1e sn t7 b0 big t8)).getD default).2
theorem z8c {sn : Nat} {t7 : Int} {b0 : List Nat} {t8 : Int} {m : Nat} {r : Int} (hm : m = big) (h : z1e sn t7 b0 m t8 = some (Sum.inl r)) : z3i sn t7 b0 t8 = true ∧ z3b sn t7 b0 t8 = true ∧ z3y sn t7 b0 t8 = r := by
  subst hm
  unfold z3i z3b z3y
  rw [h]
  exact ⟨rfl, rfl, rfl⟩
theorem z8a {sn : Nat} {t7 : Int} {b0 : List Nat} {t8 : Int} {m : Nat} {r : Int × Bool} (hm : m = big) (h : z1e sn t7 b0 m t8 = some (Sum.inr r)) : z3i sn t7 b0 t8 = true ∧ z3b sn t7 b0 t8 = false ∧ z4j sn t7 b0 t8 = r.1 ∧ z4k sn t7 b0 t8 = r.2 := by
  subst hm
  unfold z3i z3b z4j z4k
  rw [h]
  exact ⟨rfl, rfl, rfl, rfl⟩
noncomputable def z7v {R : Type} (q03 : Nat) (q0c : List Nat) (q07 : Nat) (q0e : List Nat) (q04 : Nat) (q0d : List Nat) (q0h : Nat) (k_ : Bool → Option R) : Option R := (grd (zan q03 (pF q0c 0 (muN q03 1)) q07 (pF q0e 0 (muN q07 1)) q04 (pF q0d 0 (muN q04 1))) (br (zah q03 (pF q0c 0 (muN q03 1)) q07 (pF q0e 0 (muN q07 1)) q04 (pF q0d 0 (muN q04 1))) (grd (z4l q0h) (k_ (z4f q0h))) (k_ Bool.false)))
noncomputable def z7t (q03 : Nat) (q0c : List Nat) (q07 : Nat) (q0e : List Nat) (q04 : Nat) (q0d : List Nat) (q0h : Nat) : Option (Bool) := z7v q03 q0c q07 q0e q04 q0d q0h (fun c0_ => some c0_)
theorem zde {R R' : Type} (o : Option R → Option R') (h0 : o none = none) (q03 : Nat) (q0c : List Nat) (q07 : Nat) (q0e : List Nat) (q04 : Nat) (q0d : List Nat) (q0h : Nat) (k_ : Bool → Option R) : z7v q03 q0c q07 q0e q04 q0d q0h (fun c0_ => o (k_ c0_)) = o (z7v q03 q0c q07 q0e q04 q0d q0h k_) := by
  unfold z7v
  repeat (first | refine grd_out h0 ?_ | refine br_out ?_ ?_ | rfl | exact h0.symm)
noncomputable def zaf (q03 : Nat) (q0c : List Nat) (q07 : Nat) (q0e : List Nat) (q04 : Nat) (q0d : List Nat) (q0h : Nat) : Bool := (z7t q03 q0c q07 q0e q04 q0d q0h).isSome
noncomputable def za3 (q03 : Nat) (q0c : List Nat) (q07 : Nat) (q0e : List Nat) (q04 : Nat) (q0d : List Nat) (q0h : Nat) : Bool := ((z7t q03 q0c q07 q0e q04 q0d q0h).getD default)
theorem zeu {q03 : Nat} {q0c : List Nat} {q07 : Nat} {q0e : List Nat} {q04 : Nat} {q0d : List Nat} {q0h : Nat} {r : Bool} (h : z7t q03 q0c q07 q0e q04 q0d q0h = some r) : zaf q03 q0c q07 q0e q04 q0d q0h = true ∧ za3 q03 q0c q07 q0e q04 q0d q0h = r := by
  unfold zaf za3
  rw [h]
  exact ⟨rfl, rfl⟩
noncomputable def z3o {R : Type} (s_n : Nat) (s : List Nat) (k_ : Int → Option R) : Option R := (grd (z3i s_n (Int.ofNat s_n) s 0) (br (z3b s_n (Int.ofNat s_n) s 0) (k_ (z3y s_n (Int.ofNat s_n) s 0)) (k_ (Int.negSucc 0))))
noncomputable def z3n (s_n : Nat) (s : List Nat) : Option (Int) := z3o s_n s (fun c0_ => some c0_)
theorem z8n {R R' : Type} (o : Option R → Option R') (h0 : o none = none) (s_n : Nat) (s : List Nat) (k_ : Int → Option R) : z3o s_n s (fun c0_ => o (k_ c0_)) = o (z3o s_n s k_) := by
  unfold z3o
  repeat (first | refine grd_out h0 ?_ | refine br_out ?_ ?_ | rfl | exact h0.symm)
noncomputable def z4e (s_n : Nat) (s : List Nat) : Bool := (z3n s_n s).isSome
noncomputable def z49 (s_n : Nat) (s : List Nat) : Int := ((z3n s_n s).getD default)
theorem z9h {s_n : Nat} {s : List Nat} {r : Int} (h : z3n s_n s = some r) : z4e s_n s = true ∧ z49 s_n s = r := by
  unfold z4e z49
  rw [h]
  exact ⟨rfl, rfl⟩
noncomputable def z8q {R : Type} (x : Nat) (k_ : Nat → Option R) : Option R := (grd (bnot (nanQ FloatKind.f64 x)) (k_ (fint Ieee.Toward.down x)))
noncomputable def z8t (x : Nat) : Option (Nat) := z8q x (fun c0_ => some c0_)
theorem ze3 {R R' : Type} (o : Option R → Option R') (h0 : o none = none) (x : Nat) (k_ : Nat → Option R) : z8q x (fun c0_ => o (k_ c0_)) = o (z8q x k_) := by
  unfold z8q
  repeat (first | refine grd_out h0 ?_ | refine br_out ?_ ?_ | rfl | exact h0.symm)
noncomputable def z9t (x : Nat) : Bool := (z8t x).isSome
noncomputable def z57 (x : Nat) : Nat := ((z8t x).getD default)
theorem zcr {x : Nat} {r : Nat} (h : z8t x = some r) : z9t x = true ∧ z57 x = r := by
  unfold z9t z57
  rw [h]
  exact ⟨rfl, rfl⟩
noncomputable def z76 {R : Type} (x : Nat) (k_ : Nat → Option R) : Option R := (grd (z9t (fop BinOp.add FloatKind.f64 (fcvV FloatKind.f32 FloatKind.f64 x) 4602678819172646912)) (grd (z9b (fop BinOp.sub FloatKind.f64 (fcvV FloatKind.f32 FloatKind.f64 x) (z57 (fop BinOp.add FloatKind.f64 (fcvV FloatKind.f32 FloatKind.f64 x) 4602678819172646912)))) (br (fcmp BinOp.geq FloatKind.f32 (z6w (fop BinOp.sub FloatKind.f64 (fcvV FloatKind.f32 FloatKind.f64 x) (z57 (fop BinOp.add FloatKind.f64 (fcvV FloatKind.f32 FloatKind.f64 x) 4602678819172646912)))) 1056964608) (k_ 3204448256) (k_ (z6w (fop BinOp.sub FloatKind.f64 (fcvV FloatKind.f32 FloatKind.f64 x) (z57 (fop BinOp.add FloatKind.f64 (fcvV FloatKind.f32 FloatKind.f64 x) 4602678819172646912))))))))
noncomputable def z79 (x : Nat) : Option (Nat) := z76 x (fun c0_ => some c0_)
theorem zd8 {R R' : Type} (o : Option R → Option R') (h0 : o none = none) (x : Nat) (k_ : Nat → Option R) : z76 x (fun c0_ => o (k_ c0_)) = o (z76 x k_) := by
  unfold z76
  repeat (first | refine grd_out h0 ?_ | refine br_out ?_ ?_ | rfl | exact h0.symm)
noncomputable def za5 (x : Nat) : Bool := (z79 x).isSome
noncomputable def z01 (x : Nat) : Nat := ((z79 x).getD default)
theorem zee {x : Nat} {r : Nat} (h : z79 x = some r) : za5 x = true ∧ z01 x = r := by
  unfold za5 z01
  rw [h]
  exact ⟨rfl, rfl⟩
noncomputable def z66 {R : Type} (x : Nat) (k_ : Nat → Option R) : Option R := (grd (z9t (fop BinOp.add FloatKind.f64 (fcvV FloatKind.f32 FloatKind.f64 x) 4602678819172646912)) (grd (fcvB FloatKind.f64 FloatKind.f32 (fop BinOp.sub FloatKind.f64 (fcvV FloatKind.f32 FloatKind.f64 x) (z57 (fop BinOp.add FloatKind.f64 (fcvV FloatKind.f32 FloatKind.f64 x) 4602678819172646912)))) (br (fcmp BinOp.geq FloatKind.f32 (fcvV FloatKind.f64 FloatKind.f32 (fop BinOp.sub FloatKind.f64 (fcvV FloatKind.f32 FloatKind.f64 x) (z57 (fop BinOp.add FloatKind.f64 (fcvV FloatKind.f32 FloatKind.f64 x) 4602678819172646912)))) 1056964608) (k_ 3204448256) (k_ (fcvV FloatKind.f64 FloatKind.f32 (fop BinOp.sub FloatKind.f64 (fcvV FloatKind.f32 FloatKind.f64 x) (z57 (fop BinOp.add FloatKind.f64 (fcvV FloatKind.f32 FloatKind.f64 x) 4602678819172646912))))))))
noncomputable def z6c (x : Nat) : Option (Nat) := z66 x (fun c0_ => some c0_)
theorem zcf {R R' : Type} (o : Option R → Option R') (h0 : o none = none) (x : Nat) (k_ : Nat → Option R) : z66 x (fun c0_ => o (k_ c0_)) = o (z66 x k_) := by
  unfold z66
  repeat (first | refine grd_out h0 ?_ | refine br_out ?_ ?_ | rfl | exact h0.symm)
noncomputable def z99 (x : Nat) : Bool := (z6c x).isSome
noncomputable def z32 (x : Nat) : Nat := ((z6c x).getD default)
theorem zdi {x : Nat} {r : Nat} (h : z6c x = some r) : z99 x = true ∧ z32 x = r := by
  unfold z99 z32
  rw [h]
  exact ⟨rfl, rfl⟩
noncomputable def z3a {R : Type} (s_n : Nat) (s : List Nat) (k_ : Bool → Option R) : Option R := (grd (z4a s_n (pF s 0 (muN s_n 1))) (k_ (leI 0 (z46 s_n (pF s 0 (muN s_n 1))))))
noncomputable def z39 (s_n : Nat) (s : List Nat) : Option (Bool) := z3a s_n s (fun c0_ => some c0_)
theorem z7q {R R' : Type} (o : Option R → Option R') (h0 : o none = none) (s_n : Nat) (s : List Nat) (k_ : Bool → Option R) : z3a s_n s (fun c0_ => o (k_ c0_)) = o (z3a s_n s k_) := by
  unfold z3a
  repeat (first | refine grd_out h0 ?_ | refine br_out ?_ ?_ | rfl | exact h0.symm)
noncomputable def z41 (s_n : Nat) (s : List Nat) : Bool := (z39 s_n s).isSome
noncomputable def z40 (s_n : Nat) (s : List Nat) : Bool := ((z39 s_n s).getD default)
theorem z89 {s_n : Nat} {s : List Nat} {r : Bool} (h : z39 s_n s = some r) : z41 s_n s = true ∧ z40 s_n s = r := by
  unfold z41 z40
  rw [h]
  exact ⟨rfl, rfl⟩
noncomputable def z3j {R : Type} (s_n : Nat) (s : List Nat) (k_ : Bool → Option R) : Option R := (grd (z4e s_n (pF s 0 (muN s_n 1))) (k_ (leI 0 (z49 s_n (pF s 0 (muN s_n 1))))))
noncomputable def z3h (s_n : Nat) (s : List Nat) : Option (Bool) := z3j s_n s (fun c0_ => some c0_)
theorem z7y {R R' : Type} (o : Option R → Option R') (h0 : o none = none) (s_n : Nat) (s : List Nat) (k_ : Bool → Option R) : z3j s_n s (fun c0_ => o (k_ c0_)) = o (z3j s_n s k_) := by
  unfold z3j
  repeat (first | refine grd_out h0 ?_ | refine br_out ?_ ?_ | rfl | exact h0.symm)
noncomputable def z45 (s_n : Nat) (s : List Nat) : Bool := (z3h s_n s).isSome
noncomputable def z43 (s_n : Nat) (s : List Nat) : Bool := ((z3h s_n s).getD default)
theorem z8v {s_n : Nat} {s : List Nat} {r : Bool} (h : z3h s_n s = some r) : z45 s_n s = true ∧ z43 s_n s = r := by
  unfold z45 z43
  rw [h]
  exact ⟨rfl, rfl⟩
noncomputable def z6j {R : Type} (q0q : Nat) (q0t : List Nat) (k_ : Bool → Option R) : Option R := (grd (z41 q0q (pF q0t 0 (muN q0q 1))) (k_ (bnot (z40 q0q (pF q0t 0 (muN q0q 1))))))
noncomputable def z6f (q0q : Nat) (q0t : List Nat) : Option (Bool) := z6j q0q q0t (fun c0_ => some c0_)
theorem zcb {R R' : Type} (o : Option R → Option R') (h0 : o none = none) (q0q : Nat) (q0t : List Nat) (k_ : Bool → Option R) : z6j q0q q0t (fun c0_ => o (k_ c0_)) = o (z6j q0q q0t k_) := by
  unfold z6j
  repeat (first | refine grd_out h0 ?_ | refine br_out ?_ ?_ | rfl | exact h0.symm)
noncomputable def z9g (q0q : Nat) (q0t : List Nat) : Bool := (z6f q0q q0t).isSome
noncomputable def z8g (q0q : Nat) (q0t : List Nat) : Bool := ((z6f q0q q0t).getD default)
theorem zdq {q0q : Nat} {q0t : List Nat} {r : Bool} (h : z6f q0q q0t = some r) : z9g q0q q0t = true ∧ z8g q0q q0t = r := by
  unfold z9g z8g
  rw [h]
  exact ⟨rfl, rfl⟩
noncomputable def z6m {R : Type} (q0q : Nat) (q0t : List Nat) (k_ : Bool → Option R) : Option R := (grd (z45 q0q (pF q0t 0 (muN q0q 1))) (k_ (bnot (z43 q0q (pF q0t 0 (muN q0q 1))))))
noncomputable def z6n (q0q : Nat) (q0t : List Nat) : Option (Bool) := z6m q0q q0t (fun c0_ => some c0_)
theorem zcu {R R' : Type} (o : Option R → Option R') (h0 : o none = none) (q0q : Nat) (q0t : List Nat) (k_ : Bool → Option R) : z6m q0q q0t (fun c0_ => o (k_ c0_)) = o (z6m q0q q0t k_) := by
  unfold z6m
  repeat (first | refine grd_out h0 ?_ | refine br_out ?_ ?_ | rfl | exact h0.symm)
noncomputable def z9o (q0q : Nat) (q0t : List Nat) : Bool := (z6n q0q q0t).isSome
noncomputable def z9d (q0q : Nat) (q0t : List Nat) : Bool := ((z6n q0q q0t).getD default)
theorem ze1 {q0q : Nat} {q0t : List Nat} {r : Bool} (h : z6n q0q q0t = some r) : z9o q0q q0t = true ∧ z9d q0q q0t = r := by
  unfold z9o z9d
  rw [h]
  exact ⟨rfl, rfl⟩
noncomputable def z4o {R : Type} (t8 : Nat) (b0 : List Nat) (q0m : Nat) (t10 : Int) (kn_ : Int → Option R) (k0_ : Int → Bool → Option R) : Option R := (br (leI 0 t10) (grd (okIx t10 q0m) (br (fcmp BinOp.gtr FloatKind.f32 (gF b0 (ixO 0 t10 1)) t8) (kn_ (subI IntKind.i64 t10 1)) (k0_ t10 (fcmp BinOp.gtr FloatKind.f32 (gF b0 (ixO 0 t10 1)) t8)))) (k0_ t10 Bool.false))
theorem zbv {R R' : Type} (o : Option R → Option R') (h0 : o none = none) (t8 : Nat) (b0 : List Nat) (q0m : Nat) (t10 : Int) (kn_ : Int → Option R) (k0_ : Int → Bool → Option R) : z4o t8 b0 q0m t10 (fun t10' => o (kn_ t10')) (fun c0_ c1_ => o (k0_ c0_ c1_)) = o (z4o t8 b0 q0m t10 kn_ k0_) := by
  unfold z4o
  repeat (first | refine grd_out h0 ?_ | refine br_out ?_ ?_ | rfl | exact h0.symm)
noncomputable def z3x (t8 : Nat) (b0 : List Nat) (q0m : Nat) : Nat → Int → Option ((Int × Bool))
  | 0, _ => none
  | n + 1, t10 => z4o t8 b0 q0m  t10  (fun t10' => z3x t8 b0 q0m n t10') (fun c0_ c1_ => some (c0_, c1_))
theorem zae (t8 : Nat) (b0 : List Nat) (q0m : Nat) (n : Nat) (t10 : Int) : z3x t8 b0 q0m (n + 1) t10 = z4o t8 b0 q0m  t10  (fun t10' => z3x t8 b0 q0m n t10') (fun c0_ c1_ => some (c0_, c1_)) := rfl
noncomputable def z8i (t8 : Nat) (b0 : List Nat) (q0m : Nat) (t10 : Int) : Bool := (z3x t8 b0 q0m big t10).isSome
noncomputable def z00 (t8 : Nat) (b0 : List Nat) (q0m : Nat) (t10 : Int) : Int := ((z3x t8 b0 q0m big t10).getD default).1
noncomputable def z9a (t8 : Nat) (b0 : List Nat) (q0m : Nat) (t10 : Int) : Bool := ((z3x t8 b0 q0m big t10).getD default).2
theorem zap {t8 : Nat} {b0 : List Nat} {q0m : Nat} {t10 : Int} {m : Nat} {r : Int × Bool} (hm : m = big) (h : z3x t8 b0 q0m m t10 = some r) : z8i t8 b0 q0m t10 = true ∧ z00 t8 b0 q0m t10 = r.1 ∧ z9a t8 b0 q0m t10 = r.2 := by
  subst hm
  unfold z8i z00 z9a
  rw [h]
  exact ⟨rfl, rfl, rfl⟩
noncomputable def z2o {R : Type} (sn : Nat) (t7 : Int) (b0 : List Nat) (b4 : Nat) (t8 : Int) (kn_ : Int → Option R) (k0_ : Int → Option R) (k1_ : Int → Bool → Option R) : Option R := (br (ltI t8 t7) (grd (okIx t8 sn) (br (fcmp BinOp.gtr FloatKind.f32 (gF b0 (ixO 0 t8 1)) b4) (k0_ t8) (kn_ (addI IntKind.i64 t8 1)))) (k1_ t8 (ltI t8 t7)))
theorem z74 {R R' : Type} (o : Option R → Option R') (h0 : o none = none) (sn : Nat) (t7 : Int) (b0 : List Nat) (b4 : Nat) (t8 : Int) (kn_ : Int → Option R) (k0_ : Int → Option R) (k1_ : Int → Bool → Option R) : z2o sn t7 b0 b4 t8 (fun t8' => o (kn_ t8')) (fun c0_ => o (k0_ c0_)) (fun c0_ c1_ => o (k1_ c0_ c1_)) = o (z2o sn t7 b0 b4 t8 kn_ k0_ k1_) := by
  unfold z2o
  repeat (first | refine grd_out h0 ?_ | refine br_out ?_ ?_ | rfl | exact h0.symm)
noncomputable def z0l (sn : Nat) (t7 : Int) (b0 : List Nat) (b4 : Nat) : Nat → Int → Option ((Int) ⊕ (Int × Bool))
  | 0, _ => none
  | n + 1, t8 => z2o sn t7 b0 b4  t8  (fun t8' => z0l sn t7 b0 b4 n t8') (fun c0_ => some (Sum.inl c0_)) (fun c0_ c1_ => some (Sum.inr (c0_, c1_)))
theorem z4s (sn : Nat) (t7 : Int) (b0 : List Nat) (b4 : Nat) (n : Nat) (t8 : Int) : z0l sn t7 b0 b4 (n + 1) t8 = z2o sn t7 b0 b4  t8  (fun t8' => z0l sn t7 b0 b4 n t8') (fun c0_ => some (Sum.inl c0_)) (fun c0_ c1_ => some (Sum.inr (c0_, c1_))) := rfl
noncomputable def z36 (sn : Nat) (t7 : Int) (b0 : List Nat) (b4 : Nat) (t8 : Int) : Bool := (z0l sn t7 b0 b4 big t8).isSome
noncomputable def z35 (sn : Nat) (t7 : Int) (b0 : List Nat) (b4 : Nat) (t8 : Int) : Bool := oL (z0l sn t7 b0 b4 big t8)
noncomputable def z1r (sn : Nat) (t7 : Int) (b0 : List Nat) (b4 : Nat) (t8 : Int) : Int := ((tL (z0l sn t7 b0 b4 big t8)).getD default)
noncomputable def z4d (sn : Nat) (t7 : Int) (b0 : List Nat) (b4 : Nat) (t8 : Int) : Int := ((tR (z0l sn t7 b0 b4 big t8)).getD default).1
noncomputable def z4b (sn : Nat) (t7 : Int) (b0 : List Nat) (b4 : Nat) (t8 : Int) : Bool := ((tR (z0l sn t7 b0 b4 big t8)).getD default).2
theorem z7j {sn : Nat} {t7 : Int} {b0 : List Nat} {b4 : Nat} {t8 : Int} {m : Nat} {r : Int} (hm : m = big) (h : z0l sn t7 b0 b4 m t8 = some (Sum.inl r)) : z36 sn t7 b0 b4 t8 = true ∧ z35 sn t7 b0 b4 t8 = true ∧ z1r sn t7 b0 b4 t8 = r := by
  subst hm
  unfold z36 z35 z1r
  rw [h]
  exact ⟨rfl, rfl, rfl⟩
theorem z7k {sn : Nat} {t7 : Int} {b0 : List Nat} {b4 : Nat} {t8 : Int} {m : Nat} {r : Int × Bool} (hm : m = big) (h : z0l sn t7 b0 b4 m t8 = some (Sum.inr r)) : z36 sn t7 b0 b4 t8 = true ∧ z35 sn t7 b0 b4 t8 = false ∧ z4d sn t7 b0 b4 t8 = r.1 ∧ z4b sn t7 b0 b4 t8 = r.2 := by
  subst hm
  unfold z36 z35 z4d z4b
  rw [h]
  exact ⟨rfl, rfl, rfl, rfl⟩
noncomputable def z68 {R : Type} (q00 : Nat) (q01 : List Nat) (q09 : Nat) (q0a : List Nat) (q08 : Nat) (q0b : List Nat) (x1 : Nat) (k_ : Int → Int → Nat → Nat → Option R) : Option R := (grd (za5 x1) (grd (z8i (z01 x1) q01 q00 (subI IntKind.i64 (Int.ofNat q00) 1)) (br (ltI (z00 (z01 x1) q01 q00 (subI IntKind.i64 (Int.ofNat q00) 1)) 0) (grd (okIx (subI IntKind.i64 (Int.ofNat q00) 1) q00) (grd (okIx 0 q00) (br (eqI 0 0) (br (fcmp BinOp.lss FloatKind.f32 (z01 x1) (gF q01 (ixO 0 0 1))) (br (fcmp BinOp.eql FloatKind.f32 (fop BinOp.sub FloatKind.f32 (gF q01 (ixO 0 0 1)) (fop BinOp.sub FloatKind.f32 (gF q01 (ixO 0 (subI IntKind.i64 (Int.ofNat q00) 1) 1)) 1065353216)) 0) (k_ (subI IntKind.i64 (Int.ofNat q00) 1) 0 0 (fop BinOp.sub FloatKind.f32 (gF q01 (ixO 0 0 1)) (fop BinOp.sub FloatKind.f32 (gF q01 (ixO 0 (subI IntKind.i64 (Int.ofNat q00) 1) 1)) 1065353216))) (k_ (subI IntKind.i64 (Int.ofNat q00) 1) 0 (fop BinOp.quo FloatKind.f32 (fop BinOp.sub FloatKind.f32 (z01 x1) (fop BinOp.sub FloatKind.f32 (gF q01 (ixO 0 (subI IntKind.i64 (Int.ofNat q00) 1) 1)) 1065353216)) (fop BinOp.sub FloatKind.f32 (gF q01 (ixO 0 0 1)) (fop BinOp.sub FloatKind.f32 (gF q01 (ixO 0 (subI IntKind.i64 (Int.ofNat q00) 1) 1)) 1065353216))) (fop BinOp.sub FloatKind.f32 (gF q01 (ixO 0 0 1)) (fop BinOp.sub FloatKind.f32 (gF q01 (ixO 0 (subI IntKind.i64 (Int.ofNat q00) 1) 1)) 1065353216)))) (br (eqI 0 0) (br (fcmp BinOp.eql FloatKind.f32 (fop BinOp.sub FloatKind.f32 (fop BinOp.add FloatKind.f32 (gF q01 (ixO 0 0 1)) 1065353216) (gF q01 (ixO 0 (subI IntKind.i64 (Int.ofNat q00) 1) 1))) 0) (k_ (subI IntKind.i64 (Int.ofNat q00) 1) 0 0 (fop BinOp.sub FloatKind.f32 (fop BinOp.add FloatKind.f32 (gF q01 (ixO 0 0 1)) 1065353216) (gF q01 (ixO 0 (subI IntKind.i64 (Int.ofNat q00) 1) 1)))) (k_ (subI IntKind.i64 (Int.ofNat q00) 1) 0 (fop BinOp.quo FloatKind.f32 (fop BinOp.sub FloatKind.f32 (z01 x1) (gF q01 (ixO 0 (subI IntKind.i64 (Int.ofNat q00) 1) 1))) (fop BinOp.sub FloatKind.f32 (fop BinOp.add FloatKind.f32 (gF q01 (ixO 0 0 1)) 1065353216) (gF q01 (ixO 0 (subI IntKind.i64 (Int.ofNat q00) 1) 1)))) (fop BinOp.sub FloatKind.f32 (fop BinOp.add FloatKind.f32 (gF q01 (ixO 0 0 1)) 1065353216) (gF q01 (ixO 0 (subI IntKind.i64 (Int.ofNat q00) 1) 1))))) (br (fcmp BinOp.eql FloatKind.f32 (fop BinOp.sub FloatKind.f32 (gF q01 (ixO 0 0 1)) (gF q01 (ixO 0 (subI IntKind.i64 (Int.ofNat q00) 1) 1))) 0) (k_ (subI IntKind.i64 (Int.ofNat q00) 1) 0 0 (fop BinOp.sub FloatKind.f32 (gF q01 (ixO 0 0 1)) (gF q01 (ixO 0 (subI IntKind.i64 (Int.ofNat q00) 1) 1)))) (k_ (subI IntKind.i64 (Int.ofNat q00) 1) 0 (fop BinOp.quo FloatKind.f32 (fop BinOp.sub FloatKind.f32 (z01 x1) (gF q01 (ixO 0 (subI IntKind.i64 (Int.ofNat q00) 1) 1))) (fop BinOp.sub FloatKind.f32 (gF q01 (ixO 0 0 1)) (gF q01 (ixO 0 (subI IntKind.i64 (Int.ofNat q00) 1) 1)))) (fop BinOp.sub FloatKind.f32 (gF q01 (ixO 0 0 1)) (gF q01 (ixO 0 (subI IntKind.i64 (Int.ofNat q00) 1) 1))))))) (br (eqI 0 0) (br (fcmp BinOp.eql FloatKind.f32 (fop BinOp.sub FloatKind.f32 (fop BinOp.add FloatKind.f32 (gF q01 (ixO 0 0 1)) 1065353216) (gF q01 (ixO 0 (subI IntKind.i64 (Int.ofNat q00) 1) 1))) 0) (k_ (subI IntKind.i64 (Int.ofNat q00) 1) 0 0 (fop BinOp.sub FloatKind.f32 (fop BinOp.add FloatKind.f32 (gF q01 (ixO 0 0 1)) 1065353216) (gF q01 (ixO 0 (subI IntKind.i64 (Int.ofNat q00) 1) 1)))) (k_ (subI IntKind.i64 (Int.ofNat q00) 1) 0 (fop BinOp.quo FloatKind.f32 (fop BinOp.sub FloatKind.f32 (z01 x1) (gF q01 (ixO 0 (subI IntKind.i64 (Int.ofNat q00) 1) 1))) (fop BinOp.sub FloatKind.f32 (fop BinOp.add FloatKind.f32 (gF q01 (ixO 0 0 1)) 1065353216) (gF q01 (ixO 0 (subI IntKind.i64 (Int.ofNat q00) 1) 1)))) (fop BinOp.sub FloatKind.f32 (fop BinOp.add FloatKind.f32 (gF q01 (ixO 0 0 1)) 1065353216) (gF q01 (ixO 0 (subI IntKind.i64 (Int.ofNat q00) 1) 1))))) (br (fcmp BinOp.eql FloatKind.f32 (fop BinOp.sub FloatKind.f32 (gF q01 (ixO 0 0 1)) (gF q01 (ixO 0 (subI IntKind.i64 (Int.ofNat q00) 1) 1))) 0) (k_ (subI IntKind.i64 (Int.ofNat q00) 1) 0 0 (fop BinOp.sub FloatKind.f32 (gF q01 (ixO 0 0 1)) (gF q01 (ixO 0 (subI IntKind.i64 (Int.ofNat q00) 1) 1)))) (k_ (subI IntKind.i64 (Int.ofNat q00) 1) 0 (fop BinOp.quo FloatKind.f32 (fop BinOp.sub FloatKind.f32 (z01 x1) (gF q01 (ixO 0 (subI IntKind.i64 (Int.ofNat q00) 1) 1))) (fop BinOp.sub FloatKind.f32 (gF q01 (ixO 0 0 1)) (gF q01 (ixO 0 (subI IntKind.i64 (Int.ofNat q00) 1) 1)))) (fop BinOp.sub FloatKind.f32 (gF q01 (ixO 0 0 1)) (gF q01 (ixO 0 (subI IntKind.i64 (Int.ofNat q00) 1) 1))))))))) (br (eqI (addI IntKind.i64 (z00 (z01 x1) q01 q00 (subI IntKind.i64 (Int.ofNat q00) 1)) 1) (Int.ofNat q00)) (grd (okIx (z00 (z01 x1) q01 q00 (subI IntKind.i64 (Int.ofNat q00) 1)) q00) (grd (okIx 0 q00) (br (eqI 0 0) (br (fcmp BinOp.lss FloatKind.f32 (z01 x1) (gF q01 (ixO 0 0 1))) (br (fcmp BinOp.eql FloatKind.f32 (fop BinOp.sub FloatKind.f32 (gF q01 (ixO 0 0 1)) (fop BinOp.sub FloatKind.f32 (gF q01 (ixO 0 (z00 (z01 x1) q01 q00 (subI IntKind.i64 (Int.ofNat q00) 1)) 1)) 1065353216)) 0) (k_ (z00 (z01 x1) q01 q00 (subI IntKind.i64 (Int.ofNat q00) 1)) 0 0 (fop BinOp.sub FloatKind.f32 (gF q01 (ixO 0 0 1)) (fop BinOp.sub FloatKind.f32 (gF q01 (ixO 0 (z00 (z01 x1) q01 q00 (subI IntKind.i64 (Int.ofNat q00) 1)) 1)) 1065353216))) (k_ (z00 (z01 x1) q01 q00 (subI IntKind.i64 (Int.ofNat q00) 1)) 0 (fop BinOp.quo FloatKind.f32 (fop BinOp.sub FloatKind.f32 (z01 x1) (fop BinOp.sub FloatKind.f32 (gF q01 (ixO 0 (z00 (z01 x1) q01 q00 (subI IntKind.i64 (Int.ofNat q00) 1)) 1)) 1065353216)) (fop BinOp.sub FloatKind.f32 (gF q01 (ixO 0 0 1)) (fop BinOp.sub FloatKind.f32 (gF q01 (ixO 0 (z00 (z01 x1) q01 q00 (subI IntKind.i64 (Int.ofNat q00) 1)) 1)) 1065353216))) (fop BinOp.sub FloatKind.f32 (gF q01 (ixO 0 0 1)) (fop BinOp.sub FloatKind.f32 (gF q01 (ixO 0 (z00 (z01 x1) q01 q00 (subI IntKind.i64 (Int.ofNat q00) 1)) 1)) 1065353216)))) (br (eqI 0 0) (br (fcmp BinOp.eql FloatKind.f32 (fop BinOp.sub FloatKind.f32 (fop BinOp.add FloatKind.f32 (gF q01 (ixO 0 0 1)) 1065353216) (gF q01 (ixO 0 (z00 (z01 x1) q01 q00 (subI IntKind.i64 (Int.ofNat q00) 1)) 1))) 0) (k_ (z00 (z01 x1) q01 q00 (subI IntKind.i64 (Int.ofNat q00) 1)) 0 0 (fop BinOp.sub FloatKind.f32 (fop BinOp.add FloatKind.f32 (gF q01 (ixO 0 0 1)) 1065353216) (gF q01 (ixO 0 (z00 (z01 x1) q01 q00 (subI IntKind.i64 (Int.ofNat q00) 1)) 1)))) (k_ (z00 (z01 x1) q01 q00 (subI IntKind.i64 (Int.ofNat q00) 1)) 0 (fop BinOp.quo FloatKind.f32 (fop BinOp.sub FloatKind.f32 (z01 x1) (gF q01 (ixO 0 (z00 (z01 x1) q01 q00 (subI IntKind.i64 (Int.ofNat q00) 1)) 1))) (fop BinOp.sub FloatKind.f32 (fop BinOp.add FloatKind.f32 (gF q01 (ixO 0 0 1)) 1065353216) (gF q01 (ixO 0 (z00 (z01 x1) q01 q00 (subI IntKind.i64 (Int.ofNat q00) 1)) 1)))) (fop BinOp.sub FloatKind.f32 (fop BinOp.add FloatKind.f32 (gF q01 (ixO 0 0 1)) 1065353216) (gF q01 (ixO 0 (z00 (z01 x1) q01 q00 (subI IntKind.i64 (Int.ofNat q00) 1)) 1))))) (br (fcmp BinOp.eql FloatKind.f32 (fop BinOp.sub FloatKind.f32 (gF q01 (ixO 0 0 1)) (gF q01 (ixO 0 (z00 (z01 x1) q01 q00 (subI IntKind.i64 (Int.ofNat q00) 1)) 1))) 0) (k_ (z00 (z01 x1) q01 q00 (subI IntKind.i64 (Int.ofNat q00) 1)) 0 0 (fop BinOp.sub FloatKind.f32 (gF q01 (ixO 0 0 1)) (gF q01 (ixO 0 (z00 (z01 x1) q01 q00 (subI IntKind.i64 (Int.ofNat q00) 1)) 1)))) (k_ (z00 (z01 x1) q01 q00 (subI IntKind.i64 (Int.ofNat q00) 1)) 0 (fop BinOp.quo FloatKind.f32 (fop BinOp.sub FloatKind.f32 (z01 x1) (gF q01 (ixO 0 (z00 (z01 x1) q01 q00 (subI IntKind.i64 (Int.ofNat q00) 1)) 1))) (fop BinOp.sub FloatKind.f32 (gF q01 (ixO 0 0 1)) (gF q01 (ixO 0 (z00 (z01 x1) q01 q00 (subI IntKind.i64 (Int.ofNat q00) 1)) 1)))) (fop BinOp.sub FloatKind.f32 (gF q01 (ixO 0 0 1)) (gF q01 (ixO 0 (z00 (z01 x1) q01 q00 (subI IntKind.i64 (Int.ofNat q00) 1)) 1))))))) (br (eqI 0 0) (br (fcmp BinOp.eql FloatKind.f32 (fop BinOp.sub FloatKind.f32 (fop BinOp.add FloatKind.f32 (gF q01 (ixO 0 0 1)) 1065353216) (gF q01 (ixO 0 (z00 (z01 x1) q01 q00 (subI IntKind.i64 (Int.ofNat q00) 1)) 1))) 0) (k_ (z00 (z01 x1) q01 q00 (subI IntKind.i64 (Int.ofNat q00) 1)) 0 0 (fop BinOp.sub FloatKind.f32 (fop BinOp.add FloatKind.f32 (gF q01 (ixO 0 0 1)) 1065353216) (gF q01 (ixO 0 (z00 (z01 x1) q01 q00 (subI IntKind.i64 (Int.ofNat q00) 1)) 1)))) (k_ (z00 (z01 x1) q01 q00 (subI IntKind.i64 (Int.ofNat q00) 1)) 0 (fop BinOp.quo FloatKind.f32 (fop BinOp.sub FloatKind.f32 (z01 x1) (gF q01 (ixO 0 (z00 (z01 x1) q01 q00 (subI IntKind.i64 (Int.ofNat q00) 1)) 1))) (fop BinOp.sub FloatKind.f32 (fop BinOp.add FloatKind.f32 (gF q01 (ixO 0 0 1)) 1065353216) (gF q01 (ixO 0 (z00 (z01 x1) q01 q00 (subI IntKind.i64 (Int.ofNat q00) 1)) 1)))) (fop BinOp.sub FloatKind.f32 (fop BinOp.add FloatKind.f32 (gF q01 (ixO 0 0 1)) 1065353216) (gF q01 (ixO 0 (z00 (z01 x1) q01 q00 (subI IntKind.i64 (Int.ofNat q00) 1)) 1))))) (br (fcmp BinOp.eql FloatKind.f32 (fop BinOp.sub FloatKind.f32 (gF q01 (ixO 0 0 1)) (gF q01 (ixO 0 (z00 (z01 x1) q01 q00 (subI IntKind.i64 (Int.ofNat q00) 1)) 1))) 0) (k_ (z00 (z01 x1) q01 q00 (subI IntKind.i64 (Int.ofNat q00) 1)) 0 0 (fop BinOp.sub FloatKind.f32 (gF q01 (ixO 0 0 1)) (gF q01 (ixO 0 (z00 (z01 x1) q01 q00 (subI IntKind.i64 (Int.ofNat q00) 1)) 1)))) (k_ (z00 (z01 x1) q01 q00 (subI IntKind.i64 (Int.ofNat q00) 1)) 0 (fop BinOp.quo FloatKind.f32 (fop BinOp.sub FloatKind.f32 (z01 x1) (gF q01 (ixO 0 (z00 (z01 x1) q01 q00 (subI IntKind.i64 (Int.ofNat q00) 1)) 1))) (fop BinOp.sub FloatKind.f32 (gF q01 (ixO 0 0 1)) (gF q01 (ixO 0 (z00 (z01 x1) q01 q00 (subI IntKind.i64 (Int.ofNat q00) 1)) 1)))) (fop BinOp.sub FloatKind.f32 (gF q01 (ixO 0 0 1)) (gF q01 (ixO 0 (z00 (z01 x1) q01 q00 (subI IntKind.i64 (Int.ofNat q00) 1)) 1))))))))) (grd (okIx (z00 (z01 x1) q01 q00 (subI IntKind.i64 (Int.ofNat q00) 1)) q00) (grd (okIx (addI IntKind.i64 (z00 (z01 x1) q01 q00 (subI IntKind.i64 (Int.ofNat q00) 1)) 1) q00) (br (eqI (addI IntKind.i64 (z00 (z01 x1) q01 q00 (subI IntKind.i64 (Int.ofNat q00) 1)) 1) 0) (br (fcmp BinOp.lss FloatKind.f32 (z01 x1) (gF q01 (ixO 0 (addI IntKind.i64 (z00 (z01 x1) q01 q00 (subI IntKind.i64 (Int.ofNat q00) 1)) 1) 1))) (br (fcmp BinOp.eql FloatKind.f32 (fop BinOp.sub FloatKind.f32 (gF q01 (ixO 0 (addI IntKind.i64 (z00 (z01 x1) q01 q00 (subI IntKind.i64 (Int.ofNat q00) 1)) 1) 1)) (fop BinOp.sub FloatKind.f32 (gF q01 (ixO 0 (z00 (z01 x1) q01 q00 (subI IntKind.i64 (Int.ofNat q00) 1)) 1)) 1065353216)) 0) (k_ (z00 (z01 x1) q01 q00 (subI IntKind.i64 (Int.ofNat q00) 1)) (addI IntKind.i64 (z00 (z01 x1) q01 q00 (subI IntKind.i64 (Int.ofNat q00) 1)) 1) 0 (fop BinOp.sub FloatKind.f32 (gF q01 (ixO 0 (addI IntKind.i64 (z00 (z01 x1) q01 q00 (subI IntKind.i64 (Int.ofNat q00) 1)) 1) 1)) (fop BinOp.sub FloatKind.f32 (gF q01 (ixO 0 (z00 (z01 x1) q01 q00 (subI IntKind.i64 (Int.ofNat q00) 1)) 1)) 1065353216))) (k_ (z00 (z01 x1) q01 q00 (subI IntKind.i64 (Int.ofNat q00) 1)) (addI IntKind.i64 (z00 (z01 x1) q01 q00 (subI IntKind.i64 (Int.ofNat q00) 1)) 1) (fop BinOp.quo FloatKind.f32 (fop BinOp.sub FloatKind.f32 (z01 x1) (fop BinOp.sub FloatKind.f32 (gF q01 (ixO 0 (z00 (z01 x1) q01 q00 (subI IntKind.i64 (Int.ofNat q00) 1)) 1)) 1065353216)) (fop BinOp.sub FloatKind.f32 (gF q01 (ixO 0 (addI IntKind.i64 (z00 (z01 x1) q01 q00 (subI IntKind.i64 (Int.ofNat q00) 1)) 1) 1)) (fop BinOp.sub FloatKind.f32 (gF q01 (ixO 0 (z00 (z01 x1) q01 q00 (subI IntKind.i64 (Int.ofNat q00) 1)) 1)) 1065353216))) (fop BinOp.sub FloatKind.f32 (gF q01 (ixO 0 (addI IntKind.i64 (z00 (z01 x1) q01 q00 (subI IntKind.i64 (Int.ofNat q00) 1)) 1) 1)) (fop BinOp.sub FloatKind.f32 (gF q01 (ixO 0 (z00 (z01 x1) q01 q00 (subI IntKind.i64 (Int.ofNat q00) 1)) 1)) 1065353216)))) (br (eqI (addI IntKind.i64 (z00 (z01 x1) q01 q00 (subI IntKind.i64 (Int.ofNat q00) 1)) 1) 0) (br (fcmp BinOp.eql FloatKind.f32 (fop BinOp.sub FloatKind.f32 (fop BinOp.add FloatKind.f32 (gF q01 (ixO 0 (addI IntKind.i64 (z00 (z01 x1) q01 q00 (subI IntKind.i64 (Int.ofNat q00) 1)) 1) 1)) 1065353216) (gF q01 (ixO 0 (z00 (z01 x1) q01 q00 (subI IntKind.i64 (Int.ofNat q00) 1)) 1))) 0) (k_ (z00 (z01 x1) q01 q00 (subI IntKind.i64 (Int.ofNat q00) 1)) (addI IntKind.i64 (z00 (z01 x1) q01 q00 (subI IntKind.i64 (Int.ofNat q00) 1)) 1) 0 (fop BinOp.sub FloatKind.f32 (fop BinOp.add FloatKind.f32 (gF q01 (ixO 0 (addI IntKind.i64 (z00 (z01 x1) q01 q00 (subI IntKind.i64 (Int.ofNat q00) 1)) 1) 1)) 1065353216) (gF q01 (ixO 0 (z00 (z01 x1) q01 q00 (subI IntKind.i64 (Int.ofNat q00) 1)) 1)))) (k_ (z00 (z01 x1) q01 q00 (subI IntKind.i64 (Int.ofNat q00) 1)) (addI IntKind.i64 (z00 (z01 x1) q01 q00 (subI IntKind.i64 (Int.ofNat q00) 1)) 1) (fop BinOp.quo FloatKind.f32 (fop BinOp.sub FloatKind.f32 (z01 x1) (gF q01 (ixO 0 (z00 (z01 x1) q01 q00 (subI IntKind.i64 (Int.ofNat q00) 1)) 1))) (fop BinOp.sub FloatKind.f32 (fop BinOp.add FloatKind.f32 (gF q01 (ixO 0 (addI IntKind.i64 (z00 (z01 x1) q01 q00 (subI IntKind.i64 (Int.ofNat q00) 1)) 1) 1)) 1065353216) (gF q01 (ixO 0 (z00 (z01 x1) q01 q00 (subI IntKind.i64 (Int.ofNat q00) 1)) 1)))) (fop BinOp.sub FloatKind.f32 (fop BinOp.add FloatKind.f32 (gF q01 (ixO 0 (addI IntKind.i64 (z00 (z01 x1) q01 q00 (subI IntKind.i64 (Int.ofNat q00) 1)) 1) 1)) 1065353216) (gF q01 (ixO 0 (z00 (z01 x1) q01 q00 (subI IntKind.i64 (Int.ofNat q00) 1)) 1))))) (br (fcmp BinOp.eql FloatKind.f32 (fop BinOp.sub FloatKind.f32 (gF q01 (ixO 0 (addI IntKind.i64 (z00 (z01 x1) q01 q00 (subI IntKind.i64 (Int.ofNat q00) 1)) 1) 1)) (gF q01 (ixO 0 (z00 (z01 x1) q01 q00 (subI IntKind.i64 (Int.ofNat q00) 1)) 1))) 0) (k_ (z00 (z01 x1) q01 q00 (subI IntKind.i64 (Int.ofNat q00) 1)) (addI IntKind.i64 (z00 (z01 x1) q01 q00 (subI IntKind.i64 (Int.ofNat q00) 1)) 1) 0 (fop BinOp.sub FloatKind.f32 (gF q01 (ixO 0 (addI IntKind.i64 (z00 (z01 x1) q01 q00 (subI IntKind.i64 (Int.ofNat q00) 1)) 1) 1)) (gF q01 (ixO 0 (z00 (z01 x1) q01 q00 (subI IntKind.i64 (Int.ofNat q00) 1)) 1)))) (k_ (z00 (z01 x1) q01 q00 (subI IntKind.i64 (Int.ofNat q00) 1)) (addI IntKind.i64 (z00 (z01 x1) q01 q00 (subI IntKind.i64 (Int.ofNat q00) 1)) 1) (fop BinOp.quo FloatKind.f32 (fop BinOp.sub FloatKind.f32 (z01 x1) (gF q01 (ixO 0 (z00 (z01 x1) q01 q00 (subI IntKind.i64 (Int.ofNat q00) 1)) 1))) (fop BinOp.sub FloatKind.f32 (gF q01 (ixO 0 (addI IntKind.i64 (z00 (z01 x1) q01 q00 (subI IntKind.i64 (Int.ofNat q00) 1)) 1) 1)) (gF q01 (ixO 0 (z00 (z01 x1) q01 q00 (subI IntKind.i64 (Int.ofNat q00) 1)) 1)))) (fop BinOp.sub FloatKind.f32 (gF q01 (ixO 0 (addI IntKind.i64 (z00 (z01 x1) q01 q00 (subI IntKind.i64 (Int.ofNat q00) 1)) 1) 1)) (gF q01 (ixO 0 (z00 (z01 x1) q01 q00 (subI IntKind.i64 (Int.ofNat q00) 1)) 1))))))) (br (eqI (addI IntKind.i64 (z00 (z01 x1) q01 q00 (subI IntKind.i64 (Int.ofNat q00) 1)) 1) 0) (br (fcmp BinOp.eql FloatKind.f32 (fop BinOp.sub FloatKind.f32 (fop BinOp.add FloatKind.f32 (gF q01 (ixO 0 (addI IntKind.i64 (z00 (z01 x1) q01 q00 (subI IntKind.i64 (Int.ofNat q00) 1)) 1) 1)) 1065353216) (gF q01 (ixO 0 (z00 (z01 x1) q01 q00 (subI IntKind.i64 (Int.ofNat q00) 1)) 1))) 0) (k_ (z00 (z01 x1) q01 q00 (subI IntKind.i64 (Int.ofNat q00) 1)) (addI IntKind.i64 (z00 (z01 x1) q01 q00 (subI IntKind.i64 (Int.ofNat q00) 1)) 1) 0 (fop BinOp.sub FloatKind.f32 (fop BinOp.add FloatKind.f32 (gF q01 (ixO 0 (addI IntKind.i64 (z00 (z01 x1) q01 q00 (subI IntKind.i64 (Int.ofNat q00) 1)) 1) 1)) 1065353216) (gF q01 (ixO 0 (z00 (z01 x1) q01 q00 (subI IntKind.i64 (Int.ofNat q00) 1)) 1)))) (k_ (z00 (z01 x1) q01 q00 (subI IntKind.i64 (Int.ofNat q00) 1)) (addI IntKind.i64 (z00 (z01 x1) q01 q00 (subI IntKind.i64 (Int.ofNat q00) 1)) 1) (fop BinOp.quo FloatKind.f32 (fop BinOp.sub FloatKind.f32 (z01 x1) (gF q01 (ixO 0 (z00 (z01 x1) q01 q00 (subI IntKind.i64 (Int.ofNat q00) 1)) 1))) (fop BinOp.sub FloatKind.f32 (fop BinOp.add FloatKind.f32 (gF q01 (ixO 0 (addI IntKind.i64 (z00 (z01 x1) q01 q00 (subI IntKind.i64 (Int.ofNat q00) 1)) 1) 1)) 1065353216) (gF q01 (ixO 0 (z00 (z01 x1) q01 q00 (subI IntKind.i64 (Int.ofNat q00) 1)) 1)))) (fop BinOp.sub FloatKind.f32 (fop BinOp.add FloatKind.f32 (gF q01 (ixO 0 (addI IntKind.i64 (z00 (z01 x1) q01 q00 (subI IntKind.i64 (Int.ofNat q00) 1)) 1) 1)) 1065353216) (gF q01 (ixO 0 (z00 (z01 x1) q01 q00 (subI IntKind.i64 (Int.ofNat q00) 1)) 1))))) (br (fcmp BinOp.eql FloatKind.f32 (fop BinOp.sub FloatKind.f32 (gF q01 (ixO 0 (addI IntKind.i64 (z00 (z01 x1) q01 q00 (subI IntKind.i64 (Int.ofNat q00) 1)) 1) 1)) (gF q01 (ixO 0 (z00 (z01 x1) q01 q00 (subI IntKind.i64 (Int.ofNat q00) 1)) 1))) 0) (k_ (z00 (z01 x1) q01 q00 (subI IntKind.i64 (Int.ofNat q00) 1)) (addI IntKind.i64 (z00 (z01 x1) q01 q00 (subI IntKind.i64 (Int.ofNat q00) 1)) 1) 0 (fop BinOp.sub FloatKind.f32 (gF q01 (ixO 0 (addI IntKind.i64 (z00 (z01 x1) q01 q00 (subI IntKind.i64 (Int.ofNat q00) 1)) 1) 1)) (gF q01 (ixO 0 (z00 (z01 x1) q01 q00 (subI IntKind.i64 (Int.ofNat q00) 1)) 1)))) (k_ (z00 (z01 x1) q01 q00 (subI IntKind.i64 (Int.ofNat q00) 1)) (addI IntKind.i64 (z00 (z01 x1) q01 q00 (subI IntKind.i64 (Int.ofNat q00) 1)) 1) (fop BinOp.quo FloatKind.f32 (fop BinOp.sub FloatKind.f32 (z01 x1) (gF q01 (ixO 0 (z00 (z01 x1) q01 q00 (subI IntKind.i64 (Int.ofNat q00) 1)) 1))) (fop BinOp.sub FloatKind.f32 (gF q01 (ixO 0 (addI IntKind.i64 (z00 (z01 x1) q01 q00 (subI IntKind.i64 (Int.ofNat q00) 1)) 1) 1)) (gF q01 (ixO 0 (z00 (z01 x1) q01 q00 (subI IntKind.i64 (Int.ofNat q00) 1)) 1)))) (fop BinOp.sub FloatKind.f32 (gF q01 (ixO 0 (addI IntKind.i64 (z00 (z01 x1) q01 q00 (subI IntKind.i64 (Int.ofNat q00) 1)) 1) 1)) (gF q01 (ixO 0 (z00 (z01 x1) q01 q00 (subI IntKind.i64 (Int.ofNat q00) 1)) 1)))))))))))))
noncomputable def z4q (q00 : Nat) (q01 : List Nat) (q09 : Nat) (q0a : List Nat) (q08 : Nat) (q0b : List Nat) (x1 : Nat) : Option (Int × Int × Nat × Nat) := z68 q00 q01 q09 q0a q08 q0b x1 (fun c0_ c1_ c2_ c3_ => some (c0_, c1_, c2_, c3_))
theorem zd4 {R R' : Type} (o : Option R → Option R') (h0 : o none = none) (q00 : Nat) (q01 : List Nat) (q09 : Nat) (q0a : List Nat) (q08 : Nat) (q0b : List Nat) (x1 : Nat) (k_ : Int → Int → Nat → Nat → Option R) : z68 q00 q01 q09 q0a q08 q0b x1 (fun c0_ c1_ c2_ c3_ => o (k_ c0_ c1_ c2_ c3_)) = o (z68 q00 q01 q09 q0a q08 q0b x1 k_) := by
  unfold z68
  repeat (first | refine grd_out h0 ?_ | refine br_out ?_ ?_ | rfl | exact h0.symm)
noncomputable def za9 (q00 : Nat) (q01 : List Nat) (q09 : Nat) (q0a : List Nat) (q08 : Nat) (q0b : List Nat) (x1 : Nat) : Bool := (z4q q00 q01 q09 q0a q08 q0b x1).isSome
noncomputable def z5n (q00 : Nat) (q01 : List Nat) (q09 : Nat) (q0a : List Nat) (q08 : Nat) (q0b : List Nat) (x1 : Nat) : Int := ((z4q q00 q01 q09 q0a q08 q0b x1).getD default).1
noncomputable def z7z (q00 : Nat) (q01 : List Nat) (q09 : Nat) (q0a : List Nat) (q08 : Nat) (q0b : List Nat) (x1 : Nat) : Int := ((z4q q00 q01 q09 q0a q08 q0b x1).getD default).2.1
noncomputable def z9r (q00 : Nat) (q01 : List Nat) (q09 : Nat) (q0a : List Nat) (q08 : Nat) (q0b : List Nat) (x1 : Nat) : Nat := ((z4q q00 q01 q09 q0a q08 q0b x1).getD default).2.2.1
noncomputable def zak (q00 : Nat) (q01 : List Nat) (q09 : Nat) (q0a : List Nat) (q08 : Nat) (q0b : List Nat) (x1 : Nat) : Nat := ((z4q q00 q01 q09 q0a q08 q0b x1).getD default).2.2.2
theorem zej {q00 : Nat} {q01 : List Nat} {q09 : Nat} {q0a : List Nat} {q08 : Nat} {q0b : List Nat} {x1 : Nat} {r : Int × Int × Nat × Nat} (h : z4q q00 q01 q09 q0a q08 q0b x1 = some r) : za9 q00 q01 q09 q0a q08 q0b x1 = true ∧ z5n q00 q01 q09 q0a q08 q0b x1 = r.1 ∧ z7z q00 q01 q09 q0a q08 q0b x1 = r.2.1 ∧ z9r q00 q01 q09 q0a q08 q0b x1 = r.2.2.1 ∧ zak q00 q01 q09 q0a q08 q0b x1 = r.2.2.2 := by
  unfold za9 z5n z7z z9r zak
  rw [h]
  exact ⟨rfl, rfl, rfl, rfl, rfl⟩
noncomputable def z4n {R : Type} (q00 : Nat) (q01 : List Nat) (q09 : Nat) (q0a : List Nat) (q08 : Nat) (q0b : List Nat) (x1 : Nat) (k_ : Int → Int → Nat → Nat → Nat → Option R) : Option R := (grd (z99 x1) (grd (z36 q00 (Int.ofNat q00) q01 (z32 x1) 0) (br (z35 q00 (Int.ofNat q00) q01 (z32 x1) 0) (br (eqI (z1r q00 (Int.ofNat q00) q01 (z32 x1) 0) 0) (grd (okIx (subI IntKind.i64 (Int.ofNat q00) 1) q00) (grd (okIx 0 q00) (k_ (subI IntKind.i64 (Int.ofNat q00) 1) 0 (fop BinOp.sub FloatKind.f32 (gF q01 (ixO 0 (subI IntKind.i64 (Int.ofNat q00) 1) 1)) 1065353216) (gF q01 (ixO 0 0 1)) (z32 x1)))) (br (ltI (z1r q00 (Int.ofNat q00) q01 (z32 x1) 0) 0) (grd (okIx (subI IntKind.i64 (Int.ofNat q00) 1) q00) (grd (okIx 0 q00) (k_ (subI IntKind.i64 (Int.ofNat q00) 1) 0 (gF q01 (ixO 0 (subI IntKind.i64 (Int.ofNat q00) 1) 1)) (fop BinOp.add FloatKind.f32 (gF q01 (ixO 0 0 1)) 1065353216) (z32 x1)))) (grd (okIx (subI IntKind.i64 (z1r q00 (Int.ofNat q00) q01 (z32 x1) 0) 1) q00) (grd (okIx (z1r q00 (Int.ofNat q00) q01 (z32 x1) 0) q00) (k_ (subI IntKind.i64 (z1r q00 (Int.ofNat q00) q01 (z32 x1) 0) 1) (z1r q00 (Int.ofNat q00) q01 (z32 x1) 0) (gF q01 (ixO 0 (subI IntKind.i64 (z1r q00 (Int.ofNat q00) q01 (z32 x1) 0) 1) 1)) (gF q01 (ixO 0 (z1r q00 (Int.ofNat q00) q01 (z32 x1) 0) 1)) (z32 x1)))))) (br (eqI (Int.negSucc 0) 0) (grd (okIx (subI IntKind.i64 (Int.ofNat q00) 1) q00) (grd (okIx 0 q00) (k_ (subI IntKind.i64 (Int.ofNat q00) 1) 0 (fop BinOp.sub FloatKind.f32 (gF q01 (ixO 0 (subI IntKind.i64 (Int.ofNat q00) 1) 1)) 1065353216) (gF q01 (ixO 0 0 1)) (z32 x1)))) (br (ltI (Int.negSucc 0) 0) (grd (okIx (subI IntKind.i64 (Int.ofNat q00) 1) q00) (grd (okIx 0 q00) (k_ (subI IntKind.i64 (Int.ofNat q00) 1) 0 (gF q01 (ixO 0 (subI IntKind.i64 (Int.ofNat q00) 1) 1)) (fop BinOp.add FloatKind.f32 (gF q01 (ixO 0 0 1)) 1065353216) (z32 x1)))) (grd (okIx (subI IntKind.i64 (Int.negSucc 0) 1) q00) (grd (okIx (Int.negSucc 0) q00) (k_ (subI IntKind.i64 (Int.negSucc 0) 1) (Int.negSucc 0) (gF q01 (ixO 0 (subI IntKind.i64 (Int.negSucc 0) 1) 1)) (gF q01 (ixO 0 (Int.negSucc 0) 1)) (z32 x1)))))))))
noncomputable def z3p (q00 : Nat) (q01 : List Nat) (q09 : Nat) (q0a : List Nat) (q08 : Nat) (q0b : List Nat) (x1 : Nat) : Option (Int × Int × Nat × Nat × Nat) := z4n q00 q01 q09 q0a q08 q0b x1 (fun c0_ c1_ c2_ c3_ c4_ => some (c0_, c1_, c2_, c3_, c4_))
theorem zat {R R' : Type} (o : Option R → Option R') (h0 : o none = none) (q00 : Nat) (q01 : List Nat) (q09 : Nat) (q0a : List Nat) (q08 : Nat) (q0b : List Nat) (x1 : Nat) (k_ : Int → Int → Nat → Nat → Nat → Option R) : z4n q00 q01 q09 q0a q08 q0b x1 (fun c0_ c1_ c2_ c3_ c4_ => o (k_ c0_ c1_ c2_ c3_ c4_)) = o (z4n q00 q01 q09 q0a q08 q0b x1 k_) := by
  unfold z4n
  repeat (first | refine grd_out h0 ?_ | refine br_out ?_ ?_ | rfl | exact h0.symm)
noncomputable def z6l (q00 : Nat) (q01 : List Nat) (q09 : Nat) (q0a : List Nat) (q08 : Nat) (q0b : List Nat) (x1 : Nat) : Bool := (z3p q00 q01 q09 q0a q08 q0b x1).isSome
noncomputable def z3u (q00 : Nat) (q01 : List Nat) (q09 : Nat) (q0a : List Nat) (q08 : Nat) (q0b : List Nat) (x1 : Nat) : Int := ((z3p q00 q01 q09 q0a q08 q0b x1).getD default).1
noncomputable def z3v (q00 : Nat) (q01 : List Nat) (q09 : Nat) (q0a : List Nat) (q08 : Nat) (q0b : List Nat) (x1 : Nat) : Int := ((z3p q00 q01 q09 q0a q08 q0b x1).getD default).2.1
noncomputable def z44 (q00 : Nat) (q01 : List Nat) (q09 : Nat) (q0a : List Nat) (q08 : Nat) (q0b : List Nat) (x1 : Nat) : Nat := ((z3p q00 q01 q09 q0a q08 q0b x1).getD default).2.2.1
noncomputable def z4p (q00 : Nat) (q01 : List Nat) (q09 : Nat) (q0a : List Nat) (q08 : Nat) (q0b : List Nat) (x1 : Nat) : Nat := ((z3p q00 q01 q09 q0a q08 q0b x1).getD default).2.2.2.1
noncomputable def z4y (q00 : Nat) (q01 : List Nat) (q09 : Nat) (q0a : List Nat) (q08 : Nat) (q0b : List Nat) (x1 : Nat) : Nat := ((z3p q00 q01 q09 q0a q08 q0b x1).getD default).2.2.2.2
theorem zbh {q00 : Nat} {q01 : List Nat} {q09 : Nat} {q0a : List Nat} {q08 : Nat} {q0b : List Nat} {x1 : Nat} {r : Int × Int × Nat × Nat × Nat} (h : z3p q00 q01 q09 q0a q08 q0b x1 = some r) : z6l q00 q01 q09 q0a q08 q0b x1 = true ∧ z3u q00 q01 q09 q0a q08 q0b x1 = r.1 ∧ z3v q00 q01 q09 q0a q08 q0b x1 = r.2.1 ∧ z44 q00 q01 q09 q0a q08 q0b x1 = r.2.2.1 ∧ z4p q00 q01 q09 q0a q08 q0b x1 = r.2.2.2.1 ∧ z4y q00 q01 q09 q0a q08 q0b x1 = r.2.2.2.2 := by
  unfold z6l z3u z3v z44 z4p z4y
  rw [h]
  exact ⟨rfl, rfl, rfl, rfl, rfl, rfl⟩
noncomputable def z3z {R : Type} (q0z : Nat) (t43 : Int) (b0 : List Nat) (q0m : Nat) (t44 : Int) (kn_ : Int → Option R) (k0_ : Unit → Option R) (k1_ : Int → Bool → Option R) : Option R := (br (ltI t44 t43) (grd (okIx t44 q0z) (grd (z9m (gF b0 (ixO 0 t44 1)) 3204448256 1056964608) (br (bnot (z9c (gF b0 (ixO 0 t44 1)) 3204448256 1056964608)) (k0_ ()) (br (ltI 0 t44) (grd (okIx (subI IntKind.i64 t44 1) q0m) (br (fcmp BinOp.geq FloatKind.f32 (gF b0 (ixO 0 (subI IntKind.i64 t44 1) 1)) (gF b0 (ixO 0 t44 1))) (k0_ ()) (kn_ (addI IntKind.i64 t44 1)))) (kn_ (addI IntKind.i64 t44 1)))))) (k1_ t44 (ltI t44 t43)))
theorem zau {R R' : Type} (o : Option R → Option R') (h0 : o none = none) (q0z : Nat) (t43 : Int) (b0 : List Nat) (q0m : Nat) (t44 : Int) (kn_ : Int → Option R) (k0_ : Unit → Option R) (k1_ : Int → Bool → Option R) : z3z q0z t43 b0 q0m t44 (fun t44' => o (kn_ t44')) (fun _ => o (k0_ ())) (fun c0_ c1_ => o (k1_ c0_ c1_)) = o (z3z q0z t43 b0 q0m t44 kn_ k0_ k1_) := by
  unfold z3z
  repeat (first | refine grd_out h0 ?_ | refine br_out ?_ ?_ | rfl | exact h0.symm)
noncomputable def z37 (q0z : Nat) (t43 : Int) (b0 : List Nat) (q0m : Nat) : Nat → Int → Option ((Unit) ⊕ (Int × Bool))
  | 0, _ => none
  | n + 1, t44 => z3z q0z t43 b0 q0m  t44  (fun t44' => z37 q0z t43 b0 q0m n t44') (fun _ => some (Sum.inl ())) (fun c0_ c1_ => some (Sum.inr (c0_, c1_)))
theorem z96 (q0z : Nat) (t43 : Int) (b0 : List Nat) (q0m : Nat) (n : Nat) (t44 : Int) : z37 q0z t43 b0 q0m (n + 1) t44 = z3z q0z t43 b0 q0m  t44  (fun t44' => z37 q0z t43 b0 q0m n t44') (fun _ => some (Sum.inl ())) (fun c0_ c1_ => some (Sum.inr (c0_, c1_))) := rfl
noncomputable def z4m (q0z : Nat) (t43 : Int) (b0 : List Nat) (q0m : Nat) (t44 : Int) : Bool := (z37 q0z t43 b0 q0m big t44).isSome
noncomputable def z4g (q0z : Nat) (t43 : Int) (b0 : List Nat) (q0m : Nat) (t44 : Int) : Bool := oL (z37 q0z t43 b0 q0m big t44)
noncomputable def z70 (q0z : Nat) (t43 : Int) (b0 : List Nat) (q0m : Nat) (t44 : Int) : Int := ((tR (z37 q0z t43 b0 q0m big t44)).getD default).1
noncomputable def z72 (q0z : Nat) (t43 : Int) (b0 : List Nat) (q0m : Nat) (t44 : Int) : Bool := ((tR (z37 q0z t43 b0 q0m big t44)).getD default).2
theorem zb6 {q0z : Nat} {t43 : Int} {b0 : List Nat} {q0m : Nat} {t44 : Int} {m : Nat} {r : Unit} (hm : m = big) (h : z37 q0z t43 b0 q0m m t44 = some (Sum.inl r)) : z4m q0z t43 b0 q0m t44 = true ∧ z4g q0z t43 b0 q0m t44 = true := by
  subst hm
  unfold z4m z4g
  rw [h]
  exact ⟨rfl, rfl⟩
theorem zbc {q0z : Nat} {t43 : Int} {b0 : List Nat} {q0m : Nat} {t44 : Int} {m : Nat} {r : Int × Bool} (hm : m = big) (h : z37 q0z t43 b0 q0m m t44 = some (Sum.inr r)) : z4m q0z t43 b0 q0m t44 = true ∧ z4g q0z t43 b0 q0m t44 = false ∧ z70 q0z t43 b0 q0m t44 = r.1 ∧ z72 q0z t43 b0 q0m t44 = r.2 := by
  subst hm
  unfold z4m z4g z70 z72
  rw [h]
  exact ⟨rfl, rfl, rfl, rfl⟩
noncomputable def z53 {R : Type} (q00 : Nat) (q01 : List Nat) (q09 : Nat) (q0a : List Nat) (q08 : Nat) (q0b : List Nat) (k_ : Bool → Option R) : Option R := (br (ltI (Int.ofNat q00) 2) (k_ Bool.false) (br (ltI 24 (Int.ofNat q00)) (k_ Bool.false) (br (neI (Int.ofNat q09) (Int.ofNat q00)) (k_ Bool.false) (br (neI (Int.ofNat q08) (Int.ofNat q00)) (k_ Bool.false) (grd (z9g q09 (pF q0a 0 (muN q09 1))) (br (bnot (z8g q09 (pF q0a 0 (muN q09 1)))) (k_ Bool.false) (grd (z9o q08 (pF q0b 0 (muN q08 1))) (br (bnot (z9d q08 (pF q0b 0 (muN q08 1)))) (k_ Bool.false) (grd (z4m q00 (Int.ofNat q00) q01 q00 0) (br (z4g q00 (Int.ofNat q00) q01 q00 0) (k_ Bool.false) (k_ Bool.true)))))))))))
noncomputable def z54 (q00 : Nat) (q01 : List Nat) (q09 : Nat) (q0a : List Nat) (q08 : Nat) (q0b : List Nat) : Option (Bool) := z53 q00 q01 q09 q0a q08 q0b (fun c0_ => some c0_)
theorem zbg {R R' : Type} (o : Option R → Option R') (h0 : o none = none) (q00 : Nat) (q01 : List Nat) (q09 : Nat) (q0a : List Nat) (q08 : Nat) (q0b : List Nat) (k_ : Bool → Option R) : z53 q00 q01 q09 q0a q08 q0b (fun c0_ => o (k_ c0_)) = o (z53 q00 q01 q09 q0a q08 q0b k_) := by
  unfold z53
  repeat (first | refine grd_out h0 ?_ | refine br_out ?_ ?_ | rfl | exact h0.symm)
noncomputable def z7h (q00 : Nat) (q01 : List Nat) (q09 : Nat) (q0a : List Nat) (q08 : Nat) (q0b : List Nat) : Bool := (z54 q00 q01 q09 q0a q08 q0b).isSome
noncomputable def z73 (q00 : Nat) (q01 : List Nat) (q09 : Nat) (q0a : List Nat) (q08 : Nat) (q0b : List Nat) : Bool := ((z54 q00 q01 q09 q0a q08 q0b).getD default)
theorem zcg {q00 : Nat} {q01 : List Nat} {q09 : Nat} {q0a : List Nat} {q08 : Nat} {q0b : List Nat} {r : Bool} (h : z54 q00 q01 q09 q0a q08 q0b = some r) : z7h q00 q01 q09 q0a q08 q0b = true ∧ z73 q00 q01 q09 q0a q08 q0b = r := by
  unfold z7h z73
  rw [h]
  exact ⟨rfl, rfl⟩
noncomputable def z5y {R : Type} (q03 : Nat) (q0c : List Nat) (q07 : Nat) (q0e : List Nat) (q04 : Nat) (q0d : List Nat) (q0q : Nat) (q0t : List Nat) (q0h : Nat) (k_ : Nat → Option R) : Option R := (grd (z6l q03 (pF q0c 0 (muN q03 1)) q07 (pF q0e 0 (muN q07 1)) q04 (pF q0d 0 (muN q04 1)) q0h) (br (fcmp BinOp.neq FloatKind.f32 (z44 q03 (pF q0c 0 (muN q03 1)) q07 (pF q0e 0 (muN q07 1)) q04 (pF q0d 0 (muN q04 1)) q0h) (z4p q03 (pF q0c 0 (muN q03 1)) q07 (pF q0e 0 (muN q07 1)) q04 (pF q0d 0 (muN q04 1)) q0h)) (grd (okIx (z3u q03 (pF q0c 0 (muN q03 1)) q07 (pF q0e 0 (muN q07 1)) q04 (pF q0d 0 (muN q04 1)) q0h) q0q) (grd (okIx (z3v q03 (pF q0c 0 (muN q03 1)) q07 (pF q0e 0 (muN q07 1)) q04 (pF q0d 0 (muN q04 1)) q0h) q0q) (grd (z9v (gF q0t (ixO 0 (z3u q03 (pF q0c 0 (muN q03 1)) q07 (pF q0e 0 (muN q07 1)) q04 (pF q0d 0 (muN q04 1)) q0h) 1)) (gF q0t (ixO 0 (z3v q03 (pF q0c 0 (muN q03 1)) q07 (pF q0e 0 (muN q07 1)) q04 (pF q0d 0 (muN q04 1)) q0h) 1)) (fop BinOp.quo FloatKind.f32 (fop BinOp.sub FloatKind.f32 (z4y q03 (pF q0c 0 (muN q03 1)) q07 (pF q0e 0 (muN q07 1)) q04 (pF q0d 0 (muN q04 1)) q0h) (z44 q03 (pF q0c 0 (muN q03 1)) q07 (pF q0e 0 (muN q07 1)) q04 (pF q0d 0 (muN q04 1)) q0h)) (fop BinOp.sub FloatKind.f32 (z4p q03 (pF q0c 0 (muN q03 1)) q07 (pF q0e 0 (muN q07 1)) q04 (pF q0d 0 (muN q04 1)) q0h) (z44 q03 (pF q0c 0 (muN q03 1)) q07 (pF q0e 0 (muN q07 1)) q04 (pF q0d 0 (muN q04 1)) q0h)))) (k_ (z9i (gF q0t (ixO 0 (z3u q03 (pF q0c 0 (muN q03 1)) q07 (pF q0e 0 (muN q07 1)) q04 (pF q0d 0 (muN q04 1)) q0h) 1)) (gF q0t (ixO 0 (z3v q03 (pF q0c 0 (muN q03 1)) q07 (pF q0e 0 (muN q07 1)) q04 (pF q0d 0 (muN q04 1)) q0h) 1)) (fop BinOp.quo FloatKind.f32 (fop BinOp.sub FloatKind.f32 (z4y q03 (pF q0c 0 (muN q03 1)) q07 (pF q0e 0 (muN q07 1)) q04 (pF q0d 0 (muN q04 1)) q0h) (z44 q03 (pF q0c 0 (muN q03 1)) q07 (pF q0e 0 (muN q07 1)) q04 (pF q0d 0 (muN q04 1)) q0h)) (fop BinOp.sub FloatKind.f32 (z4p q03 (pF q0c 0 (muN q03 1)) q07 (pF q0e 0 (muN q07 1)) q04 (pF q0d 0 (muN q04 1)) q0h) (z44 q03 (pF q0c 0 (muN q03 1)) q07 (pF q0e 0 (muN q07 1)) q04 (pF q0d 0 (muN q04 1)) q0h)))))))) (grd (okIx (z3u q03 (pF q0c 0 (muN q03 1)) q07 (pF q0e 0 (muN q07 1)) q04 (pF q0d 0 (muN q04 1)) q0h) q0q) (grd (okIx (z3v q03 (pF q0c 0 (muN q03 1)) q07 (pF q0e 0 (muN q07 1)) q04 (pF q0d 0 (muN q04 1)) q0h) q0q) (grd (z9v (gF q0t (ixO 0 (z3u q03 (pF q0c 0 (muN q03 1)) q07 (pF q0e 0 (muN q07 1)) q04 (pF q0d 0 (muN q04 1)) q0h) 1)) (gF q0t (ixO 0 (z3v q03 (pF q0c 0 (muN q03 1)) q07 (pF q0e 0 (muN q07 1)) q04 (pF q0d 0 (muN q04 1)) q0h) 1)) 0) (k_ (z9i (gF q0t (ixO 0 (z3u q03 (pF q0c 0 (muN q03 1)) q07 (pF q0e 0 (muN q07 1)) q04 (pF q0d 0 (muN q04 1)) q0h) 1)) (gF q0t (ixO 0 (z3v q03 (pF q0c 0 (muN q03 1)) q07 (pF q0e 0 (muN q07 1)) q04 (pF q0d 0 (muN q04 1)) q0h) 1)) 0)))))))
noncomputable def z5x (q03 : Nat) (q0c : List Nat) (q07 : Nat) (q0e : List Nat) (q04 : Nat) (q0d : List Nat) (q0q : Nat) (q0t : List Nat) (q0h : Nat) : Option (Nat) := z5y q03 q0c q07 q0e q04 q0d q0q q0t q0h (fun c0_ => some c0_)
theorem zc7 {R R' : Type} (o : Option R → Option R') (h0 : o none = none) (q03 : Nat) (q0c : List Nat) (q07 : Nat) (q0e : List Nat) (q04 : Nat) (q0d : List Nat) (q0q : Nat) (q0t : List Nat) (q0h : Nat) (k_ : Nat → Option R) : z5y q03 q0c q07 q0e q04 q0d q0q q0t q0h (fun c0_ => o (k_ c0_)) = o (z5y q03 q0c q07 q0e q04 q0d q0q q0t q0h k_) := by
  unfold z5y
  repeat (first | refine grd_out h0 ?_ | refine br_out ?_ ?_ | rfl | exact h0.symm)
noncomputable def z8k (q03 : Nat) (q0c : List Nat) (q07 : Nat) (q0e : List Nat) (q04 : Nat) (q0d : List Nat) (q0q : Nat) (q0t : List Nat) (q0h : Nat) : Bool := (z5x q03 q0c q07 q0e q04 q0d q0q q0t q0h).isSome
noncomputable def z5h (q03 : Nat) (q0c : List Nat) (q07 : Nat) (q0e : List Nat) (q04 : Nat) (q0d : List Nat) (q0q : Nat) (q0t : List Nat) (q0h : Nat) : Nat := ((z5x q03 q0c q07 q0e q04 q0d q0q q0t q0h).getD default)
theorem zdc {q03 : Nat} {q0c : List Nat} {q07 : Nat} {q0e : List Nat} {q04 : Nat} {q0d : List Nat} {q0q : Nat} {q0t : List Nat} {q0h : Nat} {r : Nat} (h : z5x q03 q0c q07 q0e q04 q0d q0q q0t q0h = some r) : z8k q03 q0c q07 q0e q04 q0d q0q q0t q0h = true ∧ z5h q03 q0c q07 q0e q04 q0d q0q q0t q0h = r := by
  unfold z8k z5h
  rw [h]
  exact ⟨rfl, rfl⟩
noncomputable def z8r {R : Type} (q03 : Nat) (q0c : List Nat) (q07 : Nat) (q0e : List Nat) (q04 : Nat) (q0d : List Nat) (q0q : Nat) (q0t : List Nat) (q0h : Nat) (k_ : Nat → Option R) : Option R := (grd (za9 q03 (pF q0c 0 (muN q03 1)) q07 (pF q0e 0 (muN q07 1)) q04 (pF q0d 0 (muN q04 1)) q0h) (grd (okIx (z5n q03 (pF q0c 0 (muN q03 1)) q07 (pF q0e 0 (muN q07 1)) q04 (pF q0d 0 (muN q04 1)) q0h) q0q) (grd (okIx (z7z q03 (pF q0c 0 (muN q03 1)) q07 (pF q0e 0 (muN q07 1)) q04 (pF q0d 0 (muN q04 1)) q0h) q0q) (grd (okIx (z5n q03 (pF q0c 0 (muN q03 1)) q07 (pF q0e 0 (muN q07 1)) q04 (pF q0d 0 (muN q04 1)) q0h) q0q) (k_ (fop BinOp.add FloatKind.f32 (gF q0t (ixO 0 (z5n q03 (pF q0c 0 (muN q03 1)) q07 (pF q0e 0 (muN q07 1)) q04 (pF q0d 0 (muN q04 1)) q0h) 1)) (fop BinOp.mul FloatKind.f32 (z9r q03 (pF q0c 0 (muN q03 1)) q07 (pF q0e 0 (muN q07 1)) q04 (pF q0d 0 (muN q04 1)) q0h) (fop BinOp.sub FloatKind.f32 (gF q0t (ixO 0 (z7z q03 (pF q0c 0 (muN q03 1)) q07 (pF q0e 0 (muN q07 1)) q04 (pF q0d 0 (muN q04 1)) q0h) 1)) (gF q0t (ixO 0 (z5n q03 (pF q0c 0 (muN q03 1)) q07 (pF q0e 0 (muN q07 1)) q04 (pF q0d 0 (muN q04 1)) q0h) 1))))))))))
noncomputable def z91 (q03 : Nat) (q0c : List Nat) (q07 : Nat) (q0e : List Nat) (q04 : Nat) (q0d : List Nat) (q0q : Nat) (q0t : List Nat) (q0h : Nat) : Option (Nat) := z8r q03 q0c q07 q0e q04 q0d q0q q0t q0h (fun c0_ => some c0_)
theorem zea {R R' : Type} (o : Option R → Option R') (h0 : o none = none) (q03 : Nat) (q0c : List Nat) (q07 : Nat) (q0e : List Nat) (q04 : Nat) (q0d : List Nat) (q0q : Nat) (q0t : List Nat) (q0h : Nat) (k_ : Nat → Option R) : z8r q03 q0c q07 q0e q04 q0d q0q q0t q0h (fun c0_ => o (k_ c0_)) = o (z8r q03 q0c q07 q0e q04 q0d q0q q0t q0h k_) := by
  unfold z8r
  repeat (first | refine grd_out h0 ?_ | refine br_out ?_ ?_ | rfl | exact h0.symm)
noncomputable def zal (q03 : Nat) (q0c : List Nat) (q07 : Nat) (q0e : List Nat) (q04 : Nat) (q0d : List Nat) (q0q : Nat) (q0t : List Nat) (q0h : Nat) : Bool := (z91 q03 q0c q07 q0e q04 q0d q0q q0t q0h).isSome
noncomputable def zaj (q03 : Nat) (q0c : List Nat) (q07 : Nat) (q0e : List Nat) (q04 : Nat) (q0d : List Nat) (q0q : Nat) (q0t : List Nat) (q0h : Nat) : Nat := ((z91 q03 q0c q07 q0e q04 q0d q0q q0t q0h).getD default)
theorem zf1 {q03 : Nat} {q0c : List Nat} {q07 : Nat} {q0e : List Nat} {q04 : Nat} {q0d : List Nat} {q0q : Nat} {q0t : List Nat} {q0h : Nat} {r : Nat} (h : z91 q03 q0c q07 q0e q04 q0d q0q q0t q0h = some r) : zal q03 q0c q07 q0e q04 q0d q0q q0t q0h = true ∧ zaj q03 q0c q07 q0e q04 q0d q0q q0t q0h = r := by
  unfold zal zaj
  rw [h]
  exact ⟨rfl, rfl⟩
noncomputable def z7s {R : Type} (q03 : Nat) (q0c : List Nat) (q07 : Nat) (q0e : List Nat) (q04 : Nat) (q0d : List Nat) (q0h : Nat) (k_ : Nat → Bool → Option R) : Option R := (grd (z7h q03 (pF q0c 0 (muN q03 1)) q07 (pF q0e 0 (muN q07 1)) q04 (pF q0d 0 (muN q04 1))) (br (bnot (z73 q03 (pF q0c 0 (muN q03 1)) q07 (pF q0e 0 (muN q07 1)) q04 (pF q0d 0 (muN q04 1)))) (k_ 0 Bool.false) (grd (z5l q0h) (br (bnot (z59 q0h)) (k_ 0 Bool.false) (grd (z8k q03 (pF q0c 0 (muN q03 1)) q07 (pF q0e 0 (muN q07 1)) q04 (pF q0d 0 (muN q04 1)) q04 (pF q0d 0 (muN q04 1)) q0h) (grd (za8 (z5h q03 (pF q0c 0 (muN q03 1)) q07 (pF q0e 0 (muN q07 1)) q04 (pF q0d 0 (muN q04 1)) q04 (pF q0d 0 (muN q04 1)) q0h)) (k_ (z9q (z5h q03 (pF q0c 0 (muN q03 1)) q07 (pF q0e 0 (muN q07 1)) q04 (pF q0d 0 (muN q04 1)) q04 (pF q0d 0 (muN q04 1)) q0h)) (z9p (z5h q03 (pF q0c 0 (muN q03 1)) q07 (pF q0e 0 (muN q07 1)) q04 (pF q0d 0 (muN q04 1)) q04 (pF q0d 0 (muN q04 1)) q0h)))))))))
noncomputable def z62 (q03 : Nat) (q0c : List Nat) (q07 : Nat) (q0e : List Nat) (q04 : Nat) (q0d : List Nat) (q0h : Nat) : Option (Nat × Bool) := z7s q03 q0c q07 q0e q04 q0d q0h (fun c0_ c1_ => some (c0_, c1_))
theorem zdu {R R' : Type} (o : Option R → Option R') (h0 : o none = none) (q03 : Nat) (q0c : List Nat) (q07 : Nat) (q0e : List Nat) (q04 : Nat) (q0d : List Nat) (q0h : Nat) (k_ : Nat → Bool → Option R) : z7s q03 q0c q07 q0e q04 q0d q0h (fun c0_ c1_ => o (k_ c0_ c1_)) = o (z7s q03 q0c q07 q0e q04 q0d q0h k_) := by
  unfold z7s
  repeat (first | refine grd_out h0 ?_ | refine br_out ?_ ?_ | rfl | exact h0.symm)
noncomputable def zai (q03 : Nat) (q0c : List Nat) (q07 : Nat) (q0e : List Nat) (q04 : Nat) (q0d : List Nat) (q0h : Nat) : Bool := (z62 q03 q0c q07 q0e q04 q0d q0h).isSome
noncomputable def z8x (q03 : Nat) (q0c : List Nat) (q07 : Nat) (q0e : List Nat) (q04 : Nat) (q0d : List Nat) (q0h : Nat) : Nat := ((z62 q03 q0c q07 q0e q04 q0d q0h).getD default).1
noncomputable def za7 (q03 : Nat) (q0c : List Nat) (q07 : Nat) (q0e : List Nat) (q04 : Nat) (q0d : List Nat) (q0h : Nat) : Bool := ((z62 q03 q0c q07 q0e q04 q0d q0h).getD default).2
theorem zes {q03 : Nat} {q0c : List Nat} {q07 : Nat} {q0e : List Nat} {q04 : Nat} {q0d : List Nat} {q0h : Nat} {r : Nat × Bool} (h : z62 q03 q0c q07 q0e q04 q0d q0h = some r) : zai q03 q0c q07 q0e q04 q0d q0h = true ∧ z8x q03 q0c q07 q0e q04 q0d q0h = r.1 ∧ za7 q03 q0c q07 q0e q04 q0d q0h = r.2 := by
  unfold zai z8x za7
  rw [h]
  exact ⟨rfl, rfl, rfl⟩
noncomputable def z7a {R : Type} (q03 : Nat) (q0c : List Nat) (q07 : Nat) (q0e : List Nat) (q04 : Nat) (q0d : List Nat) (q0h : Nat) (k_ : Nat → Option R) : Option R := (grd (zal q03 (pF q0c 0 (muN q03 1)) q07 (pF q0e 0 (muN q07 1)) q04 (pF q0d 0 (muN q04 1)) q04 (pF q0d 0 (muN q04 1)) q0h) (k_ (zaj q03 (pF q0c 0 (muN q03 1)) q07 (pF q0e 0 (muN q07 1)) q04 (pF q0d 0 (muN q04 1)) q04 (pF q0d 0 (muN q04 1)) q0h)))
noncomputable def z78 (q03 : Nat) (q0c : List Nat) (q07 : Nat) (q0e : List Nat) (q04 : Nat) (q0d : List Nat) (q0h : Nat) : Option (Nat) := z7a q03 q0c q07 q0e q04 q0d q0h (fun c0_ => some c0_)
theorem zd3 {R R' : Type} (o : Option R → Option R') (h0 : o none = none) (q03 : Nat) (q0c : List Nat) (q07 : Nat) (q0e : List Nat) (q04 : Nat) (q0d : List Nat) (q0h : Nat) (k_ : Nat → Option R) : z7a q03 q0c q07 q0e q04 q0d q0h (fun c0_ => o (k_ c0_)) = o (z7a q03 q0c q07 q0e q04 q0d q0h k_) := by
  unfold z7a
  repeat (first | refine grd_out h0 ?_ | refine br_out ?_ ?_ | rfl | exact h0.symm)
noncomputable def za4 (q03 : Nat) (q0c : List Nat) (q07 : Nat) (q0e : List Nat) (q04 : Nat) (q0d : List Nat) (q0h : Nat) : Bool := (z78 q03 q0c q07 q0e q04 q0d q0h).isSome
noncomputable def z6r (q03 : Nat) (q0c : List Nat) (q07 : Nat) (q0e : List Nat) (q04 : Nat) (q0d : List Nat) (q0h : Nat) : Nat := ((z78 q03 q0c q07 q0e q04 q0d q0h).getD default)
theorem zek {q03 : Nat} {q0c : List Nat} {q07 : Nat} {q0e : List Nat} {q04 : Nat} {q0d : List Nat} {q0h : Nat} {r : Nat} (h : z78 q03 q0c q07 q0e q04 q0d q0h = some r) : za4 q03 q0c q07 q0e q04 q0d q0h = true ∧ z6r q03 q0c q07 q0e q04 q0d q0h = r := by
  unfold za4 z6r
  rw [h]
  exact ⟨rfl, rfl⟩
noncomputable def z7u {R : Type} (q03 : Nat) (q0c : List Nat) (q07 : Nat) (q0e : List Nat) (q04 : Nat) (q0d : List Nat) (q0h : Nat) (k_ : Nat → Bool → Option R) : Option R := (grd (zaf q03 (pF q0c 0 (muN q03 1)) q07 (pF q0e 0 (muN q07 1)) q04 (pF q0d 0 (muN q04 1)) q0h) (br (bnot (za3 q03 (pF q0c 0 (muN q03 1)) q07 (pF q0e 0 (muN q07 1)) q04 (pF q0d 0 (muN q04 1)) q0h)) (k_ 0 Bool.false) (grd (za4 q03 (pF q0c 0 (muN q03 1)) q07 (pF q0e 0 (muN q07 1)) q04 (pF q0d 0 (muN q04 1)) q0h) (grd (z97 (z6r q03 (pF q0c 0 (muN q03 1)) q07 (pF q0e 0 (muN q07 1)) q04 (pF q0d 0 (muN q04 1)) q0h)) (k_ (z8l (z6r q03 (pF q0c 0 (muN q03 1)) q07 (pF q0e 0 (muN q07 1)) q04 (pF q0d 0 (muN q04 1)) q0h)) (z8j (z6r q03 (pF q0c 0 (muN q03 1)) q07 (pF q0e 0 (muN q07 1)) q04 (pF q0d 0 (muN q04 1)) q0h)))))))
noncomputable def z6u (q03 : Nat) (q0c : List Nat) (q07 : Nat) (q0e : List Nat) (q04 : Nat) (q0d : List Nat) (q0h : Nat) : Option (Nat × Bool) := z7u q03 q0c q07 q0e q04 q0d q0h (fun c0_ c1_ => some (c0_, c1_))
theorem zdo {R R' : Type} (o : Option R → Option R') (h0 : o none = none) (q03 : Nat) (q0c : List Nat) (q07 : Nat) (q0e : List Nat) (q04 : Nat) (q0d : List Nat) (q0h : Nat) (k_ : Nat → Bool → Option R) : z7u q03 q0c q07 q0e q04 q0d q0h (fun c0_ c1_ => o (k_ c0_ c1_)) = o (z7u q03 q0c q07 q0e q04 q0d q0h k_) := by
  unfold z7u
  repeat (first | refine grd_out h0 ?_ | refine br_out ?_ ?_ | rfl | exact h0.symm)
noncomputable def zag (q03 : Nat) (q0c : List Nat) (q07 : Nat) (q0e : List Nat) (q04 : Nat) (q0d : List Nat) (q0h : Nat) : Bool := (z6u q03 q0c q07 q0e q04 q0d q0h).isSome
noncomputable def z8u (q03 : Nat) (q0c : List Nat) (q07 : Nat) (q0e : List Nat) (q04 : Nat) (q0d : List Nat) (q0h : Nat) : Nat := ((z6u q03 q0c q07 q0e q04 q0d q0h).getD default).1
noncomputable def za6 (q03 : Nat) (q0c : List Nat) (q07 : Nat) (q0e : List Nat) (q04 : Nat) (q0d : List Nat) (q0h : Nat) : Bool := ((z6u q03 q0c q07 q0e q04 q0d q0h).getD default).2
theorem zer {q03 : Nat} {q0c : List Nat} {q07 : Nat} {q0e : List Nat} {q04 : Nat} {q0d : List Nat} {q0h : Nat} {r : Nat × Bool} (h : z6u q03 q0c q07 q0e q04 q0d q0h = some r) : zag q03 q0c q07 q0e q04 q0d q0h = true ∧ z8u q03 q0c q07 q0e q04 q0d q0h = r.1 ∧ za6 q03 q0c q07 q0e q04 q0d q0h = r.2 := by
  unfold zag z8u za6
  rw [h]
  exact ⟨rfl, rfl, rfl⟩
noncomputable def z4x {R : Type} (q02 : Nat) (q0g : List Nat) (q05 : Nat) (q0j : List Nat) (q06 : Nat) (q0k : List Nat) (q10 : Nat) (k_ : Bool → Option R) : Option R := (grd (z7g q02 (pF q0g 0 (muN q02 1)) q05 (pF q0j 0 (muN q05 1)) q06 (pF q0k 0 (muN q06 1)) 1048576) (br (ltI (z6x q02 (pF q0g 0 (muN q02 1)) q05 (pF q0j 0 (muN q05 1)) q06 (pF q0k 0 (muN q06 1)) 1048576) 0) (k_ Bool.true) (grd (z5c q02 (pF q0g 0 (muN q02 1)) q05 (pF q0j 0 (muN q05 1)) q06 (pF q0k 0 (muN q06 1))) (grd (zag (z2g q02 (pF q0g 0 (muN q02 1)) q05 (pF q0j 0 (muN q05 1)) q06 (pF q0k 0 (muN q06 1))) (pF (z3d q02 (pF q0g 0 (muN q02 1)) q05 (pF q0j 0 (muN q05 1)) q06 (pF q0k 0 (muN q06 1))) 0 (muN (z2g q02 (pF q0g 0 (muN q02 1)) q05 (pF q0j 0 (muN q05 1)) q06 (pF q0k 0 (muN q06 1))) 1)) (z2e q02 (pF q0g 0 (muN q02 1)) q05 (pF q0j 0 (muN q05 1)) q06 (pF q0k 0 (muN q06 1))) (pF (z3e q02 (pF q0g 0 (muN q02 1)) q05 (pF q0j 0 (muN q05 1)) q06 (pF q0k 0 (muN q06 1))) 0 (muN (z2e q02 (pF q0g 0 (muN q02 1)) q05 (pF q0j 0 (muN q05 1)) q06 (pF q0k 0 (muN q06 1))) 1)) (z2f q02 (pF q0g 0 (muN q02 1)) q05 (pF q0j 0 (muN q05 1)) q06 (pF q0k 0 (muN q06 1))) (pF (z3f q02 (pF q0g 0 (muN q02 1)) q05 (pF q0j 0 (muN q05 1)) q06 (pF q0k 0 (muN q06 1))) 0 (muN (z2f q02 (pF q0g 0 (muN q02 1)) q05 (pF q0j 0 (muN q05 1)) q06 (pF q0k 0 (muN q06 1))) 1)) q10) (grd (z5c q02 (pF q0g 0 (muN q02 1)) q05 (pF q0j 0 (muN q05 1)) q06 (pF q0k 0 (muN q06 1))) (grd (zai (z2g q02 (pF q0g 0 (muN q02 1)) q05 (pF q0j 0 (muN q05 1)) q06 (pF q0k 0 (muN q06 1))) (pF (z3d q02 (pF q0g 0 (muN q02 1)) q05 (pF q0j 0 (muN q05 1)) q06 (pF q0k 0 (muN q06 1))) 0 (muN (z2g q02 (pF q0g 0 (muN q02 1)) q05 (pF q0j 0 (muN q05 1)) q06 (pF q0k 0 (muN q06 1))) 1)) (z2e q02 (pF q0g 0 (muN q02 1)) q05 (pF q0j 0 (muN q05 1)) q06 (pF q0k 0 (muN q06 1))) (pF (z3e q02 (pF q0g 0 (muN q02 1)) q05 (pF q0j 0 (muN q05 1)) q06 (pF q0k 0 (muN q06 1))) 0 (muN (z2e q02 (pF q0g 0 (muN q02 1)) q05 (pF q0j 0 (muN q05 1)) q06 (pF q0k 0 (muN q06 1))) 1)) (z2f q02 (pF q0g 0 (muN q02 1)) q05 (pF q0j 0 (muN q05 1)) q06 (pF q0k 0 (muN q06 1))) (pF (z3f q02 (pF q0g 0 (muN q02 1)) q05 (pF q0j 0 (muN q05 1)) q06 (pF q0k 0 (muN q06 1))) 0 (muN (z2f q02 (pF q0g 0 (muN q02 1)) q05 (pF q0j 0 (muN q05 1)) q06 (pF q0k 0 (muN q06 1))) 1)) q10) (grd (z7e (fcvV FloatKind.f32 FloatKind.f64 (z8x (z2g q02 (pF q0g 0 (muN q02 1)) q05 (pF q0j 0 (muN q05 1)) q06 (pF q0k 0 (muN q06 1))) (pF (z3d q02 (pF q0g 0 (muN q02 1)) q05 (pF q0j 0 (muN q05 1)) q06 (pF q0k 0 (muN q06 1))) 0 (muN (z2g q02 (pF q0g 0 (muN q02 1)) q05 (pF q0j 0 (muN q05 1)) q06 (pF q0k 0 (muN q06 1))) 1)) (z2e q02 (pF q0g 0 (muN q02 1)) q05 (pF q0j 0 (muN q05 1)) q06 (pF q0k 0 (muN q06 1))) (pF (z3e q02 (pF q0g 0 (muN q02 1)) q05 (pF q0j 0 (muN q05 1)) q06 (pF q0k 0 (muN q06 1))) 0 (muN (z2e q02 (pF q0g 0 (muN q02 1)) q05 (pF q0j 0 (muN q05 1)) q06 (pF q0k 0 (muN q06 1))) 1)) (z2f q02 (pF q0g 0 (muN q02 1)) q05 (pF q0j 0 (muN q05 1)) q06 (pF q0k 0 (muN q06 1))) (pF (z3f q02 (pF q0g 0 (muN q02 1)) q05 (pF q0j 0 (muN q05 1)) q06 (pF q0k 0 (muN q06 1))) 0 (muN (z2f q02 (pF q0g 0 (muN q02 1)) q05 (pF q0j 0 (muN q05 1)) q06 (pF q0k 0 (muN q06 1))) 1)) q10)) (fcvV FloatKind.f32 FloatKind.f64 (z8u (z2g q02 (pF q0g 0 (muN q02 1)) q05 (pF q0j 0 (muN q05 1)) q06 (pF q0k 0 (muN q06 1))) (pF (z3d q02 (pF q0g 0 (muN q02 1)) q05 (pF q0j 0 (muN q05 1)) q06 (pF q0k 0 (muN q06 1))) 0 (muN (z2g q02 (pF q0g 0 (muN q02 1)) q05 (pF q0j 0 (muN q05 1)) q06 (pF q0k 0 (muN q06 1))) 1)) (z2e q02 (pF q0g 0 (muN q02 1)) q05 (pF q0j 0 (muN q05 1)) q06 (pF q0k 0 (muN q06 1))) (pF (z3e q02 (pF q0g 0 (muN q02 1)) q05 (pF q0j 0 (muN q05 1)) q06 (pF q0k 0 (muN q06 1))) 0 (muN (z2e q02 (pF q0g 0 (muN q02 1)) q05 (pF q0j 0 (muN q05 1)) q06 (pF q0k 0 (muN q06 1))) 1)) (z2f q02 (pF q0g 0 (muN q02 1)) q05 (pF q0j 0 (muN q05 1)) q06 (pF q0k 0 (muN q06 1))) (pF (z3f q02 (pF q0g 0 (muN q02 1)) q05 (pF q0j 0 (muN q05 1)) q06 (pF q0k 0 (muN q06 1))) 0 (muN (z2f q02 (pF q0g 0 (muN q02 1)) q05 (pF q0j 0 (muN q05 1)) q06 (pF q0k 0 (muN q06 1))) 1)) q10))) (br (bnot (z6v (fcvV FloatKind.f32 FloatKind.f64 (z8x (z2g q02 (pF q0g 0 (muN q02 1)) q05 (pF q0j 0 (muN q05 1)) q06 (pF q0k 0 (muN q06 1))) (pF (z3d q02 (pF q0g 0 (muN q02 1)) q05 (pF q0j 0 (muN q05 1)) q06 (pF q0k 0 (muN q06 1))) 0 (muN (z2g q02 (pF q0g 0 (muN q02 1)) q05 (pF q0j 0 (muN q05 1)) q06 (pF q0k 0 (muN q06 1))) 1)) (z2e q02 (pF q0g 0 (muN q02 1)) q05 (pF q0j 0 (muN q05 1)) q06 (pF q0k 0 (muN q06 1))) (pF (z3e q02 (pF q0g 0 (muN q02 1)) q05 (pF q0j 0 (muN q05 1)) q06 (pF q0k 0 (muN q06 1))) 0 (muN (z2e q02 (pF q0g 0 (muN q02 1)) q05 (pF q0j 0 (muN q05 1)) q06 (pF q0k 0 (muN q06 1))) 1)) (z2f q02 (pF q0g 0 (muN q02 1)) q05 (pF q0j 0 (muN q05 1)) q06 (pF q0k 0 (muN q06 1))) (pF (z3f q02 (pF q0g 0 (muN q02 1)) q05 (pF q0j 0 (muN q05 1)) q06 (pF q0k 0 (muN q06 1))) 0 (muN (z2f q02 (pF q0g 0 (muN q02 1)) q05 (pF q0j 0 (muN q05 1)) q06 (pF q0k 0 (muN q06 1))) 1)) q10)) (fcvV FloatKind.f32 FloatKind.f64 (z8u (z2g q02 (pF q0g 0 (muN q02 1)) q05 (pF q0j 0 (muN q05 1)) q06 (pF q0k 0 (muN q06 1))) (pF (z3d q02 (pF q0g 0 (muN q02 1)) q05 (pF q0j 0 (muN q05 1)) q06 (pF q0k 0 (muN q06 1))) 0 (muN (z2g q02 (pF q0g 0 (muN q02 1)) q05 (pF q0j 0 (muN q05 1)) q06 (pF q0k 0 (muN q06 1))) 1)) (z2e q02 (pF q0g 0 (muN q02 1)) q05 (pF q0j 0 (muN q05 1)) q06 (pF q0k 0 (muN q06 1))) (pF (z3e q02 (pF q0g 0 (muN q02 1)) q05 (pF q0j 0 (muN q05 1)) q06 (pF q0k 0 (muN q06 1))) 0 (muN (z2e q02 (pF q0g 0 (muN q02 1)) q05 (pF q0j 0 (muN q05 1)) q06 (pF q0k 0 (muN q06 1))) 1)) (z2f q02 (pF q0g 0 (muN q02 1)) q05 (pF q0j 0 (muN q05 1)) q06 (pF q0k 0 (muN q06 1))) (pF (z3f q02 (pF q0g 0 (muN q02 1)) q05 (pF q0j 0 (muN q05 1)) q06 (pF q0k 0 (muN q06 1))) 0 (muN (z2f q02 (pF q0g 0 (muN q02 1)) q05 (pF q0j 0 (muN q05 1)) q06 (pF q0k 0 (muN q06 1))) 1)) q10)))) (k_ Bool.false) (br (bnot (beqB (za7 (z2g q02 (pF q0g 0 (muN q02 1)) q05 (pF q0j 0 (muN q05 1)) q06 (pF q0k 0 (muN q06 1))) (pF (z3d q02 (pF q0g 0 (muN q02 1)) q05 (pF q0j 0 (muN q05 1)) q06 (pF q0k 0 (muN q06 1))) 0 (muN (z2g q02 (pF q0g 0 (muN q02 1)) q05 (pF q0j 0 (muN q05 1)) q06 (pF q0k 0 (muN q06 1))) 1)) (z2e q02 (pF q0g 0 (muN q02 1)) q05 (pF q0j 0 (muN q05 1)) q06 (pF q0k 0 (muN q06 1))) (pF (z3e q02 (pF q0g 0 (muN q02 1)) q05 (pF q0j 0 (muN q05 1)) q06 (pF q0k 0 (muN q06 1))) 0 (muN (z2e q02 (pF q0g 0 (muN q02 1)) q05 (pF q0j 0 (muN q05 1)) q06 (pF q0k 0 (muN q06 1))) 1)) (z2f q02 (pF q0g 0 (muN q02 1)) q05 (pF q0j 0 (muN q05 1)) q06 (pF q0k 0 (muN q06 1))) (pF (z3f q02 (pF q0g 0 (muN q02 1)) q05 (pF q0j 0 (muN q05 1)) q06 (pF q0k 0 (muN q06 1))) 0 (muN (z2f q02 (pF q0g 0 (muN q02 1)) q05 (pF q0j 0 (muN q05 1)) q06 (pF q0k 0 (muN q06 1))) 1)) q10) (za6 (z2g q02 (pF q0g 0 (muN q02 1)) q05 (pF q0j 0 (muN q05 1)) q06 (pF q0k 0 (muN q06 1))) (pF (z3d q02 (pF q0g 0 (muN q02 1)) q05 (pF q0j 0 (muN q05 1)) q06 (pF q0k 0 (muN q06 1))) 0 (muN (z2g q02 (pF q0g 0 (muN q02 1)) q05 (pF q0j 0 (muN q05 1)) q06 (pF q0k 0 (muN q06 1))) 1)) (z2e q02 (pF q0g 0 (muN q02 1)) q05 (pF q0j 0 (muN q05 1)) q06 (pF q0k 0 (muN q06 1))) (pF (z3e q02 (pF q0g 0 (muN q02 1)) q05 (pF q0j 0 (muN q05 1)) q06 (pF q0k 0 (muN q06 1))) 0 (muN (z2e q02 (pF q0g 0 (muN q02 1)) q05 (pF q0j 0 (muN q05 1)) q06 (pF q0k 0 (muN q06 1))) 1)) (z2f q02 (pF q0g 0 (muN q02 1)) q05 (pF q0j 0 (muN q05 1)) q06 (pF q0k 0 (muN q06 1))) (pF (z3f q02 (pF q0g 0 (muN q02 1)) q05 (pF q0j 0 (muN q05 1)) q06 (pF q0k 0 (muN q06 1))) 0 (muN (z2f q02 (pF q0g 0 (muN q02 1)) q05 (pF q0j 0 (muN q05 1)) q06 (pF q0k 0 (muN q06 1))) 1)) q10))) (k_ Bool.false) (grd (z5c q02 (pF q0g 0 (muN q02 1)) q05 (pF q0j 0 (muN q05 1)) q06 (pF q0k 0 (muN q06 1))) (grd (z7f (z2g q02 (pF q0g 0 (muN q02 1)) q05 (pF q0j 0 (muN q05 1)) q06 (pF q0k 0 (muN q06 1))) (pF (z3d q02 (pF q0g 0 (muN q02 1)) q05 (pF q0j 0 (muN q05 1)) q06 (pF q0k 0 (muN q06 1))) 0 (muN (z2g q02 (pF q0g 0 (muN q02 1)) q05 (pF q0j 0 (muN q05 1)) q06 (pF q0k 0 (muN q06 1))) 1)) (z2e q02 (pF q0g 0 (muN q02 1)) q05 (pF q0j 0 (muN q05 1)) q06 (pF q0k 0 (muN q06 1))) (pF (z3e q02 (pF q0g 0 (muN q02 1)) q05 (pF q0j 0 (muN q05 1)) q06 (pF q0k 0 (muN q06 1))) 0 (muN (z2e q02 (pF q0g 0 (muN q02 1)) q05 (pF q0j 0 (muN q05 1)) q06 (pF q0k 0 (muN q06 1))) 1)) (z2f q02 (pF q0g 0 (muN q02 1)) q05 (pF q0j 0 (muN q05 1)) q06 (pF q0k 0 (muN q06 1))) (pF (z3f q02 (pF q0g 0 (muN q02 1)) q05 (pF q0j 0 (muN q05 1)) q06 (pF q0k 0 (muN q06 1))) 0 (muN (z2f q02 (pF q0g 0 (muN q02 1)) q05 (pF q0j 0 (muN q05 1)) q06 (pF q0k 0 (muN q06 1))) 1)) (z2g q02 (pF q0g 0 (muN q02 1)) q05 (pF q0j 0 (muN q05 1)) q06 (pF q0k 0 (muN q06 1))) (pF (z3d q02 (pF q0g 0 (muN q02 1)) q05 (pF q0j 0 (muN q05 1)) q06 (pF q0k 0 (muN q06 1))) 0 (muN (z2g q02 (pF q0g 0 (muN q02 1)) q05 (pF q0j 0 (muN q05 1)) q06 (pF q0k 0 (muN q06 1))) 1)) (z2e q02 (pF q0g 0 (muN q02 1)) q05 (pF q0j 0 (muN q05 1)) q06 (pF q0k 0 (muN q06 1))) (pF (z3e q02 (pF q0g 0 (muN q02 1)) q05 (pF q0j 0 (muN q05 1)) q06 (pF q0k 0 (muN q06 1))) 0 (muN (z2e q02 (pF q0g 0 (muN q02 1)) q05 (pF q0j 0 (muN q05 1)) q06 (pF q0k 0 (muN q06 1))) 1)) (z2f q02 (pF q0g 0 (muN q02 1)) q05 (pF q0j 0 (muN q05 1)) q06 (pF q0k 0 (muN q06 1))) (pF (z3f q02 (pF q0g 0 (muN q02 1)) q05 (pF q0j 0 (muN q05 1)) q06 (pF q0k 0 (muN q06 1))) 0 (muN (z2f q02 (pF q0g 0 (muN q02 1)) q05 (pF q0j 0 (muN q05 1)) q06 (pF q0k 0 (muN q06 1))) 1))) (br (bnot (z6y (z2g q02 (pF q0g 0 (muN q02 1)) q05 (pF q0j 0 (muN q05 1)) q06 (pF q0k 0 (muN q06 1))) (pF (z3d q02 (pF q0g 0 (muN q02 1)) q05 (pF q0j 0 (muN q05 1)) q06 (pF q0k 0 (muN q06 1))) 0 (muN (z2g q02 (pF q0g 0 (muN q02 1)) q05 (pF q0j 0 (muN q05 1)) q06 (pF q0k 0 (muN q06 1))) 1)) (z2e q02 (pF q0g 0 (muN q02 1)) q05 (pF q0j 0 (muN q05 1)) q06 (pF q0k 0 (muN q06 1))) (pF (z3e q02 (pF q0g 0 (muN q02 1)) q05 (pF q0j 0 (muN q05 1)) q06 (pF q0k 0 (muN q06 1))) 0 (muN (z2e q02 (pF q0g 0 (muN q02 1)) q05 (pF q0j 0 (muN q05 1)) q06 (pF q0k 0 (muN q06 1))) 1)) (z2f q02 (pF q0g 0 (muN q02 1)) q05 (pF q0j 0 (muN q05 1)) q06 (pF q0k 0 (muN q06 1))) (pF (z3f q02 (pF q0g 0 (muN q02 1)) q05 (pF q0j 0 (muN q05 1)) q06 (pF q0k 0 (muN q06 1))) 0 (muN (z2f q02 (pF q0g 0 (muN q02 1)) q05 (pF q0j 0 (muN q05 1)) q06 (pF q0k 0 (muN q06 1))) 1)) (z2g q02 (pF q0g 0 (muN q02 1)) q05 (pF q0j 0 (muN q05 1)) q06 (pF q0k 0 (muN q06 1))) (pF (z3d q02 (pF q0g 0 (muN q02 1)) q05 (pF q0j 0 (muN q05 1)) q06 (pF q0k 0 (muN q06 1))) 0 (muN (z2g q02 (pF q0g 0 (muN q02 1)) q05 (pF q0j 0 (muN q05 1)) q06 (pF q0k 0 (muN q06 1))) 1)) (z2e q02 (pF q0g 0 (muN q02 1)) q05 (pF q0j 0 (muN q05 1)) q06 (pF q0k 0 (muN q06 1))) (pF (z3e q02 (pF q0g 0 (muN q02 1)) q05 (pF q0j 0 (muN q05 1)) q06 (pF q0k 0 (muN q06 1))) 0 (muN (z2e q02 (pF q0g 0 (muN q02 1)) q05 (pF q0j 0 (muN q05 1)) q06 (pF q0k 0 (muN q06 1))) 1)) (z2f q02 (pF q0g 0 (muN q02 1)) q05 (pF q0j 0 (muN q05 1)) q06 (pF q0k 0 (muN q06 1))) (pF (z3f q02 (pF q0g 0 (muN q02 1)) q05 (pF q0j 0 (muN q05 1)) q06 (pF q0k 0 (muN q06 1))) 0 (muN (z2f q02 (pF q0g 0 (muN q02 1)) q05 (pF q0j 0 (muN q05 1)) q06 (pF q0k 0 (muN q06 1))) 1)))) (k_ Bool.false) (k_ Bool.true)))))))))))))
noncomputable def z4w (q02 : Nat) (q0g : List Nat) (q05 : Nat) (q0j : List Nat) (q06 : Nat) (q0k : List Nat) (q10 : Nat) : Option (Bool) := z4x q02 q0g q05 q0j q06 q0k q10 (fun c0_ => some c0_)
theorem zb9 {R R' : Type} (o : Option R → Option R') (h0 : o none = none) (q02 : Nat) (q0g : List Nat) (q05 : Nat) (q0j : List Nat) (q06 : Nat) (q0k : List Nat) (q10 : Nat) (k_ : Bool → Option R) : z4x q02 q0g q05 q0j q06 q0k q10 (fun c0_ => o (k_ c0_)) = o (z4x q02 q0g q05 q0j q06 q0k q10 k_) := by
  unfold z4x
  repeat (first | refine grd_out h0 ?_ | refine br_out ?_ ?_ | rfl | exact h0.symm)
noncomputable def z9e (q02 : Nat) (q0g : List Nat) (q05 : Nat) (q0j : List Nat) (q06 : Nat) (q0k : List Nat) (q10 : Nat) : Bool := (z4w q02 q0g q05 q0j q06 q0k q10).isSome
noncomputable def z8m (q02 : Nat) (q0g : List Nat) (q05 : Nat) (q0j : List Nat) (q06 : Nat) (q0k : List Nat) (q10 : Nat) : Bool := ((z4w q02 q0g q05 q0j q06 q0k q10).getD default)
theorem zc2 {q02 : Nat} {q0g : List Nat} {q05 : Nat} {q0j : List Nat} {q06 : Nat} {q0k : List Nat} {q10 : Nat} {r : Bool} (h : z4w q02 q0g q05 q0j q06 q0k q10 = some r) : z9e q02 q0g q05 q0j q06 q0k q10 = true ∧ z8m q02 q0g q05 q0j q06 q0k q10 = r := by
  unfold z9e z8m
  rw [h]
  exact ⟨rfl, rfl⟩
end Go.Rf
