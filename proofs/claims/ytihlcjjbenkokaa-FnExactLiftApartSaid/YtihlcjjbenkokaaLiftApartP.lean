import Derived.Test.YtihlcjjbenkokaaB
set_option linter.unusedVariables false
set_option linter.unusedSimpArgs false
set_option maxRecDepth 100000
set_option maxHeartbeats 4000000
namespace Go.Rf
open Go
noncomputable def z6c {R : Type} (a : Nat) (b : Nat) (k_ : Bool → Option R) : Option R := (br (fcmp BinOp.neq FloatKind.f64 a a) (br (fcmp BinOp.neq FloatKind.f64 a a) (k_ (fcmp BinOp.neq FloatKind.f64 b b)) (k_ Bool.false)) (br (fcmp BinOp.neq FloatKind.f64 b b) (br (fcmp BinOp.neq FloatKind.f64 a a) (k_ (fcmp BinOp.neq FloatKind.f64 b b)) (k_ Bool.false)) (br (fcmp BinOp.eql FloatKind.f64 a 0) (br (fcmp BinOp.eql FloatKind.f64 b 0) (k_ (beqB (fcmp BinOp.gtr FloatKind.f64 (fop BinOp.quo FloatKind.f64 4607182418800017408 a) 0) (fcmp BinOp.gtr FloatKind.f64 (fop BinOp.quo FloatKind.f64 4607182418800017408 b) 0))) (k_ (fcmp BinOp.eql FloatKind.f64 a b))) (k_ (fcmp BinOp.eql FloatKind.f64 a b)))))
noncomputable def z6d (a : Nat) (b : Nat) : Option (Bool) := z6c a b (fun c0_ => some c0_)
theorem zcr {R R' : Type} (o : Option R → Option R') (h0 : o none = none) (a : Nat) (b : Nat) (k_ : Bool → Option R) : z6c a b (fun c0_ => o (k_ c0_)) = o (z6c a b k_) := by
  unfold z6c
  repeat (first | refine grd_out h0 ?_ | refine br_out ?_ ?_ | rfl | exact h0.symm)
noncomputable def z7q (a : Nat) (b : Nat) : Bool := (z6d a b).isSome
noncomputable def z78 (a : Nat) (b : Nat) : Bool := ((z6d a b).getD default)
theorem zb8 {a : Nat} {b : Nat} {r : Bool} (h : z6d a b = some r) : z7q a b = true ∧ z78 a b = r := by
  unfold z7q z78
  rw [h]
  exact ⟨rfl, rfl⟩
noncomputable def z60 {R : Type} (a_n : Nat) (a : List Nat) (q0z : Int) (k_ : Int → Option R) : Option R := (br (ltI (subI IntKind.i64 q0z (Int.ofNat a_n)) 0) (k_ (Int.negSucc 0)) (k_ (subI IntKind.i64 q0z (Int.ofNat a_n))))
noncomputable def z65 (a_n : Nat) (a : List Nat) (q0z : Int) : Option (Int) := z60 a_n a q0z (fun c0_ => some c0_)
theorem zcc {R R' : Type} (o : Option R → Option R') (h0 : o none = none) (a_n : Nat) (a : List Nat) (q0z : Int) (k_ : Int → Option R) : z60 a_n a q0z (fun c0_ => o (k_ c0_)) = o (z60 a_n a q0z k_) := by
  unfold z60
  repeat (first | refine grd_out h0 ?_ | refine br_out ?_ ?_ | rfl | exact h0.symm)
noncomputable def z64 (a_n : Nat) (a : List Nat) (q0z : Int) : Bool := (z65 a_n a q0z).isSome
noncomputable def z3i (a_n : Nat) (a : List Nat) (q0z : Int) : Int := ((z65 a_n a q0z).getD default)
theorem za5 {a_n : Nat} {a : List Nat} {q0z : Int} {r : Int} (h : z65 a_n a q0z = some r) : z64 a_n a q0z = true ∧ z3i a_n a q0z = r := by
  unfold z64 z3i
  rw [h]
  exact ⟨rfl, rfl⟩
noncomputable def z8h {R : Type} (x : Nat) (k_ : Bool → Option R) : Option R := (k_ (fcmp BinOp.eql FloatKind.f32 (fop BinOp.sub FloatKind.f32 x x) 0))
noncomputable def z8k (x : Nat) : Option (Bool) := z8h x (fun c0_ => some c0_)
theorem zd5 {R R' : Type} (o : Option R → Option R') (h0 : o none = none) (x : Nat) (k_ : Bool → Option R) : z8h x (fun c0_ => o (k_ c0_)) = o (z8h x k_) := by
  unfold z8h
  repeat (first | refine grd_out h0 ?_ | refine br_out ?_ ?_ | rfl | exact h0.symm)
noncomputable def z58 (x : Nat) : Bool := (z8k x).isSome
noncomputable def z4z (x : Nat) : Bool := ((z8k x).getD default)
theorem z7x {x : Nat} {r : Bool} (h : z8k x = some r) : z58 x = true ∧ z4z x = r := by
  unfold z58 z4z
  rw [h]
  exact ⟨rfl, rfl⟩
noncomputable def z7v {R : Type} (x : Nat) (k_ : Bool → Option R) : Option R := (k_ (fcmp BinOp.eql FloatKind.f32 (fop BinOp.sub FloatKind.f32 x x) 0))
noncomputable def z7u (x : Nat) : Option (Bool) := z7v x (fun c0_ => some c0_)
theorem zck {R R' : Type} (o : Option R → Option R') (h0 : o none = none) (x : Nat) (k_ : Bool → Option R) : z7v x (fun c0_ => o (k_ c0_)) = o (z7v x k_) := by
  unfold z7v
  repeat (first | refine grd_out h0 ?_ | refine br_out ?_ ?_ | rfl | exact h0.symm)
noncomputable def z4f (x : Nat) : Bool := (z7u x).isSome
noncomputable def z48 (x : Nat) : Bool := ((z7u x).getD default)
theorem z75 {x : Nat} {r : Bool} (h : z7u x = some r) : z4f x = true ∧ z48 x = r := by
  unfold z4f z48
  rw [h]
  exact ⟨rfl, rfl⟩
noncomputable def z6y {R : Type} (x : Nat) (low : Nat) (q18 : Nat) (k_ : Bool → Option R) : Option R := (br (fcmp BinOp.geq FloatKind.f32 x low) (k_ (fcmp BinOp.leq FloatKind.f32 x q18)) (k_ Bool.false))
noncomputable def z71 (x : Nat) (low : Nat) (q18 : Nat) : Option (Bool) := z6y x low q18 (fun c0_ => some c0_)
theorem zd9 {R R' : Type} (o : Option R → Option R') (h0 : o none = none) (x : Nat) (low : Nat) (q18 : Nat) (k_ : Bool → Option R) : z6y x low q18 (fun c0_ => o (k_ c0_)) = o (z6y x low q18 k_) := by
  unfold z6y
  repeat (first | refine grd_out h0 ?_ | refine br_out ?_ ?_ | rfl | exact h0.symm)
noncomputable def za1 (x : Nat) (low : Nat) (q18 : Nat) : Bool := (z71 x low q18).isSome
noncomputable def z9p (x : Nat) (low : Nat) (q18 : Nat) : Bool := ((z71 x low q18).getD default)
theorem zeg {x : Nat} {low : Nat} {q18 : Nat} {r : Bool} (h : z71 x low q18 = some r) : za1 x low q18 = true ∧ z9p x low q18 = r := by
  unfold za1 z9p
  rw [h]
  exact ⟨rfl, rfl⟩
noncomputable def zab {R : Type} (a : Nat) (b : Nat) (q0t : Nat) (k_ : Nat → Option R) : Option R := (k_ (fop BinOp.add FloatKind.f32 a (fop BinOp.mul FloatKind.f32 q0t (fop BinOp.sub FloatKind.f32 b a))))
noncomputable def zaa (a : Nat) (b : Nat) (q0t : Nat) : Option (Nat) := zab a b q0t (fun c0_ => some c0_)
theorem zec {R R' : Type} (o : Option R → Option R') (h0 : o none = none) (a : Nat) (b : Nat) (q0t : Nat) (k_ : Nat → Option R) : zab a b q0t (fun c0_ => o (k_ c0_)) = o (zab a b q0t k_) := by
  unfold zab
  repeat (first | refine grd_out h0 ?_ | refine br_out ?_ ?_ | rfl | exact h0.symm)
noncomputable def za3 (a : Nat) (b : Nat) (q0t : Nat) : Bool := (zaa a b q0t).isSome
noncomputable def z9t (a : Nat) (b : Nat) (q0t : Nat) : Nat := ((zaa a b q0t).getD default)
theorem zfa {a : Nat} {b : Nat} {q0t : Nat} {r : Nat} (h : zaa a b q0t = some r) : za3 a b q0t = true ∧ z9t a b q0t = r := by
  unfold za3 z9t
  rw [h]
  exact ⟨rfl, rfl⟩
noncomputable def z6b {R : Type} (x : Nat) (k_ : Nat → Option R) : Option R := (grd (fcvB FloatKind.f64 FloatKind.f32 x) (k_ (fcvV FloatKind.f64 FloatKind.f32 x)))
noncomputable def z6o (x : Nat) : Option (Nat) := z6b x (fun c0_ => some c0_)
theorem zct {R R' : Type} (o : Option R → Option R') (h0 : o none = none) (x : Nat) (k_ : Nat → Option R) : z6b x (fun c0_ => o (k_ c0_)) = o (z6b x k_) := by
  unfold z6b
  repeat (first | refine grd_out h0 ?_ | refine br_out ?_ ?_ | rfl | exact h0.symm)
noncomputable def z9o (x : Nat) : Bool := (z6o x).isSome
noncomputable def z7b (x : Nat) : Nat := ((z6o x).getD default)
theorem zdx {x : Nat} {r : Nat} (h : z6o x = some r) : z9o x = true ∧ z7b x = r := by
  unfold z9o z7b
  rw [h]
  exact ⟨rfl, rfl⟩
noncomputable def z6i {R : Type} (q0g : Nat) (q0n : List Nat) (q0i : Nat) (q0o : List Nat) (q0l : Nat) (q0p : List Nat) (q0z : Int) (k_ : Int → Option R) : Option R := (grd (z64 q0g (pF q0n 0 (muN q0g 1)) q0z) (br (ltI (z3i q0g (pF q0n 0 (muN q0g 1)) q0z) 0) (k_ (Int.negSucc 0)) (grd (z64 q0i (pF q0o 0 (muN q0i 1)) (z3i q0g (pF q0n 0 (muN q0g 1)) q0z)) (br (ltI (z3i q0i (pF q0o 0 (muN q0i 1)) (z3i q0g (pF q0n 0 (muN q0g 1)) q0z)) 0) (k_ (Int.negSucc 0)) (grd (z64 q0l (pF q0p 0 (muN q0l 1)) (z3i q0i (pF q0o 0 (muN q0i 1)) (z3i q0g (pF q0n 0 (muN q0g 1)) q0z))) (br (ltI (z3i q0l (pF q0p 0 (muN q0l 1)) (z3i q0i (pF q0o 0 (muN q0i 1)) (z3i q0g (pF q0n 0 (muN q0g 1)) q0z))) 0) (k_ (Int.negSucc 0)) (k_ (z3i q0l (pF q0p 0 (muN q0l 1)) (z3i q0i (pF q0o 0 (muN q0i 1)) (z3i q0g (pF q0n 0 (muN q0g 1)) q0z))))))))))
noncomputable def z6l (q0g : Nat) (q0n : List Nat) (q0i : Nat) (q0o : List Nat) (q0l : Nat) (q0p : List Nat) (q0z : Int) : Option (Int) := z6i q0g q0n q0i q0o q0l q0p q0z (fun c0_ => some c0_)
theorem zcm {R R' : Type} (o : Option R → Option R') (h0 : o none = none) (q0g : Nat) (q0n : List Nat) (q0i : Nat) (q0o : List Nat) (q0l : Nat) (q0p : List Nat) (q0z : Int) (k_ : Int → Option R) : z6i q0g q0n q0i q0o q0l q0p q0z (fun c0_ => o (k_ c0_)) = o (z6i q0g q0n q0i q0o q0l q0p q0z k_) := by
  unfold z6i
  repeat (first | refine grd_out h0 ?_ | refine br_out ?_ ?_ | rfl | exact h0.symm)
noncomputable def z7w (q0g : Nat) (q0n : List Nat) (q0i : Nat) (q0o : List Nat) (q0l : Nat) (q0p : List Nat) (q0z : Int) : Bool := (z6l q0g q0n q0i q0o q0l q0p q0z).isSome
noncomputable def z77 (q0g : Nat) (q0n : List Nat) (q0i : Nat) (q0o : List Nat) (q0l : Nat) (q0p : List Nat) (q0z : Int) : Int := ((z6l q0g q0n q0i q0o q0l q0p q0z).getD default)
theorem zdp {q0g : Nat} {q0n : List Nat} {q0i : Nat} {q0o : List Nat} {q0l : Nat} {q0p : List Nat} {q0z : Int} {r : Int} (h : z6l q0g q0n q0i q0o q0l q0p q0z = some r) : z7w q0g q0n q0i q0o q0l q0p q0z = true ∧ z77 q0g q0n q0i q0o q0l q0p q0z = r := by
  unfold z7w z77
  rw [h]
  exact ⟨rfl, rfl⟩
noncomputable def z6f {R : Type} (x : Nat) (k_ : Nat → Bool → Option R) : Option R := (grd (z4f x) (br (bnot (z48 x)) (k_ 0 Bool.false) (k_ x Bool.true)))
noncomputable def z5j (x : Nat) : Option (Nat × Bool) := z6f x (fun c0_ c1_ => some (c0_, c1_))
theorem zcq {R R' : Type} (o : Option R → Option R') (h0 : o none = none) (x : Nat) (k_ : Nat → Bool → Option R) : z6f x (fun c0_ c1_ => o (k_ c0_ c1_)) = o (z6f x k_) := by
  unfold z6f
  repeat (first | refine grd_out h0 ?_ | refine br_out ?_ ?_ | rfl | exact h0.symm)
noncomputable def z7s (x : Nat) : Bool := (z5j x).isSome
noncomputable def z79 (x : Nat) : Nat := ((z5j x).getD default).1
noncomputable def z7a (x : Nat) : Bool := ((z5j x).getD default).2
theorem zb4 {x : Nat} {r : Nat × Bool} (h : z5j x = some r) : z7s x = true ∧ z79 x = r.1 ∧ z7a x = r.2 := by
  unfold z7s z79 z7a
  rw [h]
  exact ⟨rfl, rfl, rfl⟩
noncomputable def z7l {R : Type} (x : Nat) (k_ : Nat → Bool → Option R) : Option R := (grd (z58 x) (br (bnot (z4z x)) (k_ 0 Bool.false) (k_ x Bool.true)))
noncomputable def z6n (x : Nat) : Option (Nat × Bool) := z7l x (fun c0_ c1_ => some (c0_, c1_))
theorem zdj {R R' : Type} (o : Option R → Option R') (h0 : o none = none) (x : Nat) (k_ : Nat → Bool → Option R) : z7l x (fun c0_ c1_ => o (k_ c0_ c1_)) = o (z7l x k_) := by
  unfold z7l
  repeat (first | refine grd_out h0 ?_ | refine br_out ?_ ?_ | rfl | exact h0.symm)
noncomputable def z7o (x : Nat) : Bool := (z6n x).isSome
noncomputable def z6w (x : Nat) : Nat := ((z6n x).getD default).1
noncomputable def z6z (x : Nat) : Bool := ((z6n x).getD default).2
theorem zaw {x : Nat} {r : Nat × Bool} (h : z6n x = some r) : z7o x = true ∧ z6w x = r.1 ∧ z6z x = r.2 := by
  unfold z7o z6w z6z
  rw [h]
  exact ⟨rfl, rfl, rfl⟩
noncomputable def z6x {R : Type} (x : Nat) (k_ : Bool → Option R) : Option R := (grd (z4f x) (br (z48 x) (k_ (fcmp BinOp.geq FloatKind.f32 x 0)) (k_ Bool.false)))
noncomputable def z6t (x : Nat) : Option (Bool) := z6x x (fun c0_ => some c0_)
theorem zda {R R' : Type} (o : Option R → Option R') (h0 : o none = none) (x : Nat) (k_ : Bool → Option R) : z6x x (fun c0_ => o (k_ c0_)) = o (z6x x k_) := by
  unfold z6x
  repeat (first | refine grd_out h0 ?_ | refine br_out ?_ ?_ | rfl | exact h0.symm)
noncomputable def z5s (x : Nat) : Bool := (z6t x).isSome
noncomputable def z5h (x : Nat) : Bool := ((z6t x).getD default)
theorem zeb {x : Nat} {r : Bool} (h : z6t x = some r) : z5s x = true ∧ z5h x = r := by
  unfold z5s z5h
  rw [h]
  exact ⟨rfl, rfl⟩
noncomputable def z7m {R : Type} (x : Nat) (k_ : Bool → Option R) : Option R := (grd (z58 x) (br (z4z x) (k_ (fcmp BinOp.geq FloatKind.f32 x 0)) (k_ Bool.false)))
noncomputable def z7p (x : Nat) : Option (Bool) := z7m x (fun c0_ => some c0_)
theorem zdl {R R' : Type} (o : Option R → Option R') (h0 : o none = none) (x : Nat) (k_ : Bool → Option R) : z7m x (fun c0_ => o (k_ c0_)) = o (z7m x k_) := by
  unfold z7m
  repeat (first | refine grd_out h0 ?_ | refine br_out ?_ ?_ | rfl | exact h0.symm)
noncomputable def zah (x : Nat) : Bool := (z7p x).isSome
noncomputable def za0 (x : Nat) : Bool := ((z7p x).getD default)
theorem zet {x : Nat} {r : Bool} (h : z7p x = some r) : zah x = true ∧ za0 x = r := by
  unfold zah za0
  rw [h]
  exact ⟨rfl, rfl⟩
noncomputable def z5m {R : Type} (x : Nat) (k_ : Bool → Option R) : Option R := (grd (z58 x) (k_ (bnot (z4z x))))
noncomputable def z5p (x : Nat) : Option (Bool) := z5m x (fun c0_ => some c0_)
theorem zc2 {R R' : Type} (o : Option R → Option R') (h0 : o none = none) (x : Nat) (k_ : Bool → Option R) : z5m x (fun c0_ => o (k_ c0_)) = o (z5m x k_) := by
  unfold z5m
  repeat (first | refine grd_out h0 ?_ | refine br_out ?_ ?_ | rfl | exact h0.symm)
noncomputable def z8e (x : Nat) : Bool := (z5p x).isSome
noncomputable def z7z (x : Nat) : Bool := ((z5p x).getD default)
theorem zd8 {x : Nat} {r : Bool} (h : z5p x = some r) : z8e x = true ∧ z7z x = r := by
  unfold z8e z7z
  rw [h]
  exact ⟨rfl, rfl⟩
noncomputable def z4b {R : Type} (an : Nat) (q17 : Nat) (b0 : List Nat) (i : Int) (b1 : List Nat) (kn_ : Int → (List Nat) → Option R) (k0_ : Int → Bool → (List Nat) → Option R) : Option R := (br (ltI i (Int.ofNat an)) (grd (okIx i an) (grd (okIx i q17) (kn_ (addI IntKind.i64 i 1) (sF b1 (ixO 0 i 1) (gF b0 (ixO 0 i 1)))))) (k0_ i (ltI i (Int.ofNat an)) b1))
theorem zbo {R R' : Type} (o : Option R → Option R') (h0 : o none = none) (an : Nat) (q17 : Nat) (b0 : List Nat) (i : Int) (b1 : List Nat) (kn_ : Int → (List Nat) → Option R) (k0_ : Int → Bool → (List Nat) → Option R) : z4b an q17 b0 i b1 (fun i' b1' => o (kn_ i' b1')) (fun c0_ c1_ c2_ => o (k0_ c0_ c1_ c2_)) = o (z4b an q17 b0 i b1 kn_ k0_) := by
  unfold z4b
  repeat (first | refine grd_out h0 ?_ | refine br_out ?_ ?_ | rfl | exact h0.symm)
noncomputable def z3t (an : Nat) (q17 : Nat) (b0 : List Nat) : Nat → Int → (List Nat) → Option ((Int × Bool × (List Nat)))
  | 0, _, _ => none
  | n + 1, i, b1 => z4b an q17 b0  i b1  (fun i' b1' => z3t an q17 b0 n i' b1') (fun c0_ c1_ c2_ => some (c0_, c1_, c2_))
theorem z9z (an : Nat) (q17 : Nat) (b0 : List Nat) (n : Nat) (i : Int) (b1 : List Nat) : z3t an q17 b0 (n + 1) i b1 = z4b an q17 b0  i b1  (fun i' b1' => z3t an q17 b0 n i' b1') (fun c0_ c1_ c2_ => some (c0_, c1_, c2_)) := rfl
noncomputable def z5t (an : Nat) (q17 : Nat) (b0 : List Nat) (i : Int) (b1 : List Nat) : Bool := (z3t an q17 b0 big i b1).isSome
noncomputable def z82 (an : Nat) (q17 : Nat) (b0 : List Nat) (i : Int) (b1 : List Nat) : Int := ((z3t an q17 b0 big i b1).getD default).1
noncomputable def z85 (an : Nat) (q17 : Nat) (b0 : List Nat) (i : Int) (b1 : List Nat) : Bool := ((z3t an q17 b0 big i b1).getD default).2.1
noncomputable def z55 (an : Nat) (q17 : Nat) (b0 : List Nat) (i : Int) (b1 : List Nat) : List Nat := ((z3t an q17 b0 big i b1).getD default).2.2
theorem zc0 {an : Nat} {q17 : Nat} {b0 : List Nat} {i : Int} {b1 : List Nat} {m : Nat} {r : Int × Bool × (List Nat)} (hm : m = big) (h : z3t an q17 b0 m i b1 = some r) : z5t an q17 b0 i b1 = true ∧ z82 an q17 b0 i b1 = r.1 ∧ z85 an q17 b0 i b1 = r.2.1 ∧ z55 an q17 b0 i b1 = r.2.2 := by
  subst hm
  unfold z5t z82 z85 z55
  rw [h]
  exact ⟨rfl, rfl, rfl, rfl⟩
noncomputable def z61 {R : Type} (a_n : Nat) (a : List Nat) (k_ : Nat → (List Nat) → Option R) : Option R := (grd (okMk (Int.ofNat a_n) (Int.ofNat a_n) 4) (grd (z5t a_n (toN (Int.ofNat a_n)) a 0 (rF (muN (toN (Int.ofNat a_n)) 1))) (k_ (toN (Int.ofNat a_n)) (z55 a_n (toN (Int.ofNat a_n)) a 0 (rF (muN (toN (Int.ofNat a_n)) 1))))))
noncomputable def z56 (a_n : Nat) (a : List Nat) : Option (Nat × (List Nat)) := z61 a_n a (fun c0_ c1_ => some (c0_, c1_))
theorem zcj {R R' : Type} (o : Option R → Option R') (h0 : o none = none) (a_n : Nat) (a : List Nat) (k_ : Nat → (List Nat) → Option R) : z61 a_n a (fun c0_ c1_ => o (k_ c0_ c1_)) = o (z61 a_n a k_) := by
  unfold z61
  repeat (first | refine grd_out h0 ?_ | refine br_out ?_ ?_ | rfl | exact h0.symm)
noncomputable def z5x (a_n : Nat) (a : List Nat) : Bool := (z56 a_n a).isSome
noncomputable def z5o (a_n : Nat) (a : List Nat) : Nat := ((z56 a_n a).getD default).1
noncomputable def z5l (a_n : Nat) (a : List Nat) : List Nat := ((z56 a_n a).getD default).2
theorem za9 {a_n : Nat} {a : List Nat} {r : Nat × (List Nat)} (h : z56 a_n a = some r) : z5x a_n a = true ∧ z5o a_n a = r.1 ∧ z5l a_n a = r.2 := by
  unfold z5x z5o z5l
  rw [h]
  exact ⟨rfl, rfl, rfl⟩
noncomputable def z67 {R : Type} (x : Nat) (k_ : Bool → Option R) : Option R := (grd (zah x) (k_ (bnot (za0 x))))
noncomputable def z5z (x : Nat) : Option (Bool) := z67 x (fun c0_ => some c0_)
theorem zce {R R' : Type} (o : Option R → Option R') (h0 : o none = none) (x : Nat) (k_ : Bool → Option R) : z67 x (fun c0_ => o (k_ c0_)) = o (z67 x k_) := by
  unfold z67
  repeat (first | refine grd_out h0 ?_ | refine br_out ?_ ?_ | rfl | exact h0.symm)
noncomputable def z8y (x : Nat) : Bool := (z5z x).isSome
noncomputable def z8m (x : Nat) : Bool := ((z5z x).getD default)
theorem zdg {x : Nat} {r : Bool} (h : z5z x = some r) : z8y x = true ∧ z8m x = r := by
  unfold z8y z8m
  rw [h]
  exact ⟨rfl, rfl⟩
noncomputable def z49 {R : Type} (an : Nat) (bn : Nat) (b0 : List Nat) (b1 : List Nat) (i : Int) (kn_ : Int → Option R) (k0_ : Unit → Option R) (k1_ : Int → Bool → Option R) : Option R := (br (ltI i (Int.ofNat an)) (grd (okIx i an) (grd (okIx i bn) (grd (z7q (fcvV FloatKind.f32 FloatKind.f64 (gF b0 (ixO 0 i 1))) (fcvV FloatKind.f32 FloatKind.f64 (gF b1 (ixO 0 i 1)))) (br (bnot (z78 (fcvV FloatKind.f32 FloatKind.f64 (gF b0 (ixO 0 i 1))) (fcvV FloatKind.f32 FloatKind.f64 (gF b1 (ixO 0 i 1))))) (k0_ ()) (kn_ (addI IntKind.i64 i 1)))))) (k1_ i (ltI i (Int.ofNat an))))
theorem zbl {R R' : Type} (o : Option R → Option R') (h0 : o none = none) (an : Nat) (bn : Nat) (b0 : List Nat) (b1 : List Nat) (i : Int) (kn_ : Int → Option R) (k0_ : Unit → Option R) (k1_ : Int → Bool → Option R) : z49 an bn b0 b1 i (fun i' => o (kn_ i')) (fun _ => o (k0_ ())) (fun c0_ c1_ => o (k1_ c0_ c1_)) = o (z49 an bn b0 b1 i kn_ k0_ k1_) := by
  unfold z49
  repeat (first | refine grd_out h0 ?_ | refine br_out ?_ ?_ | rfl | exact h0.symm)
noncomputable def z3s (an : Nat) (bn : Nat) (b0 : List Nat) (b1 : List Nat) : Nat → Int → Option ((Unit) ⊕ (Int × Bool))
  | 0, _ => none
  | n + 1, i => z49 an bn b0 b1  i  (fun i' => z3s an bn b0 b1 n i') (fun _ => some (Sum.inl ())) (fun c0_ c1_ => some (Sum.inr (c0_, c1_)))
theorem z9y (an : Nat) (bn : Nat) (b0 : List Nat) (b1 : List Nat) (n : Nat) (i : Int) : z3s an bn b0 b1 (n + 1) i = z49 an bn b0 b1  i  (fun i' => z3s an bn b0 b1 n i') (fun _ => some (Sum.inl ())) (fun c0_ c1_ => some (Sum.inr (c0_, c1_))) := rfl
noncomputable def z7f (an : Nat) (bn : Nat) (b0 : List Nat) (b1 : List Nat) (i : Int) : Bool := (z3s an bn b0 b1 big i).isSome
noncomputable def z6u (an : Nat) (bn : Nat) (b0 : List Nat) (b1 : List Nat) (i : Int) : Bool := oL (z3s an bn b0 b1 big i)
noncomputable def z84 (an : Nat) (bn : Nat) (b0 : List Nat) (b1 : List Nat) (i : Int) : Int := ((tR (z3s an bn b0 b1 big i)).getD default).1
noncomputable def z87 (an : Nat) (bn : Nat) (b0 : List Nat) (b1 : List Nat) (i : Int) : Bool := ((tR (z3s an bn b0 b1 big i)).getD default).2
theorem zc3 {an : Nat} {bn : Nat} {b0 : List Nat} {b1 : List Nat} {i : Int} {m : Nat} {r : Int × Bool} (hm : m = big) (h : z3s an bn b0 b1 m i = some (Sum.inr r)) : z7f an bn b0 b1 i = true ∧ z6u an bn b0 b1 i = false ∧ z84 an bn b0 b1 i = r.1 ∧ z87 an bn b0 b1 i = r.2 := by
  subst hm
  unfold z7f z6u z84 z87
  rw [h]
  exact ⟨rfl, rfl, rfl, rfl⟩
noncomputable def z6m {R : Type} (q0g : Nat) (q0n : List Nat) (q0i : Nat) (q0o : List Nat) (q0l : Nat) (q0p : List Nat) (k_ : Nat → Nat → Nat → (List Nat) → (List Nat) → (List Nat) → Option R) : Option R := (grd (z5x q0g (pF q0n 0 (muN q0g 1))) (grd (z5x q0i (pF q0o 0 (muN q0i 1))) (grd (z5x q0l (pF q0p 0 (muN q0l 1))) (k_ (z5o q0g (pF q0n 0 (muN q0g 1))) (z5o q0i (pF q0o 0 (muN q0i 1))) (z5o q0l (pF q0p 0 (muN q0l 1))) (z5l q0g (pF q0n 0 (muN q0g 1))) (z5l q0i (pF q0o 0 (muN q0i 1))) (z5l q0l (pF q0p 0 (muN q0l 1)))))))
noncomputable def z4e (q0g : Nat) (q0n : List Nat) (q0i : Nat) (q0o : List Nat) (q0l : Nat) (q0p : List Nat) : Option (Nat × Nat × Nat × (List Nat) × (List Nat) × (List Nat)) := z6m q0g q0n q0i q0o q0l q0p (fun c0_ c1_ c2_ c3_ c4_ c5_ => some (c0_, c1_, c2_, c3_, c4_, c5_))
theorem zcw {R R' : Type} (o : Option R → Option R') (h0 : o none = none) (q0g : Nat) (q0n : List Nat) (q0i : Nat) (q0o : List Nat) (q0l : Nat) (q0p : List Nat) (k_ : Nat → Nat → Nat → (List Nat) → (List Nat) → (List Nat) → Option R) : z6m q0g q0n q0i q0o q0l q0p (fun c0_ c1_ c2_ c3_ c4_ c5_ => o (k_ c0_ c1_ c2_ c3_ c4_ c5_)) = o (z6m q0g q0n q0i q0o q0l q0p k_) := by
  unfold z6m
  repeat (first | refine grd_out h0 ?_ | refine br_out ?_ ?_ | rfl | exact h0.symm)
noncomputable def z5i (q0g : Nat) (q0n : List Nat) (q0i : Nat) (q0o : List Nat) (q0l : Nat) (q0p : List Nat) : Bool := (z4e q0g q0n q0i q0o q0l q0p).isSome
noncomputable def z2g (q0g : Nat) (q0n : List Nat) (q0i : Nat) (q0o : List Nat) (q0l : Nat) (q0p : List Nat) : Nat := ((z4e q0g q0n q0i q0o q0l q0p).getD default).1
noncomputable def z2h (q0g : Nat) (q0n : List Nat) (q0i : Nat) (q0o : List Nat) (q0l : Nat) (q0p : List Nat) : Nat := ((z4e q0g q0n q0i q0o q0l q0p).getD default).2.1
noncomputable def z2f (q0g : Nat) (q0n : List Nat) (q0i : Nat) (q0o : List Nat) (q0l : Nat) (q0p : List Nat) : Nat := ((z4e q0g q0n q0i q0o q0l q0p).getD default).2.2.1
noncomputable def z3g (q0g : Nat) (q0n : List Nat) (q0i : Nat) (q0o : List Nat) (q0l : Nat) (q0p : List Nat) : List Nat := ((z4e q0g q0n q0i q0o q0l q0p).getD default).2.2.2.1
noncomputable def z3h (q0g : Nat) (q0n : List Nat) (q0i : Nat) (q0o : List Nat) (q0l : Nat) (q0p : List Nat) : List Nat := ((z4e q0g q0n q0i q0o q0l q0p).getD default).2.2.2.2.1
noncomputable def z3f (q0g : Nat) (q0n : List Nat) (q0i : Nat) (q0o : List Nat) (q0l : Nat) (q0p : List Nat) : List Nat := ((z4e q0g q0n q0i q0o q0l q0p).getD default).2.2.2.2.2
theorem zdr {q0g : Nat} {q0n : List Nat} {q0i : Nat} {q0o : List Nat} {q0l : Nat} {q0p : List Nat} {r : Nat × Nat × Nat × (List Nat) × (List Nat) × (List Nat)} (h : z4e q0g q0n q0i q0o q0l q0p = some r) : z5i q0g q0n q0i q0o q0l q0p = true ∧ z2g q0g q0n q0i q0o q0l q0p = r.1 ∧ z2h q0g q0n q0i q0o q0l q0p = r.2.1 ∧ z2f q0g q0n q0i q0o q0l q0p = r.2.2.1 ∧ z3g q0g q0n q0i q0o q0l q0p = r.2.2.2.1 ∧ z3h q0g q0n q0i q0o q0l q0p = r.2.2.2.2.1 ∧ z3f q0g q0n q0i q0o q0l q0p = r.2.2.2.2.2 := by
  unfold z5i z2g z2h z2f z3g z3h z3f
  rw [h]
  exact ⟨rfl, rfl, rfl, rfl, rfl, rfl, rfl⟩
noncomputable def z62 {R : Type} (a_n : Nat) (a : List Nat) (b_n : Nat) (b : List Nat) (k_ : Bool → Option R) : Option R := (br (neI (Int.ofNat a_n) (Int.ofNat b_n)) (k_ Bool.false) (grd (z7f a_n b_n a b 0) (br (z6u a_n b_n a b 0) (k_ Bool.false) (k_ Bool.true))))
noncomputable def z5w (a_n : Nat) (a : List Nat) (b_n : Nat) (b : List Nat) : Option (Bool) := z62 a_n a b_n b (fun c0_ => some c0_)
theorem zcb {R R' : Type} (o : Option R → Option R') (h0 : o none = none) (a_n : Nat) (a : List Nat) (b_n : Nat) (b : List Nat) (k_ : Bool → Option R) : z62 a_n a b_n b (fun c0_ => o (k_ c0_)) = o (z62 a_n a b_n b k_) := by
  unfold z62
  repeat (first | refine grd_out h0 ?_ | refine br_out ?_ ?_ | rfl | exact h0.symm)
noncomputable def z66 (a_n : Nat) (a : List Nat) (b_n : Nat) (b : List Nat) : Bool := (z5w a_n a b_n b).isSome
noncomputable def z5k (a_n : Nat) (a : List Nat) (b_n : Nat) (b : List Nat) : Bool := ((z5w a_n a b_n b).getD default)
theorem za7 {a_n : Nat} {a : List Nat} {b_n : Nat} {b : List Nat} {r : Bool} (h : z5w a_n a b_n b = some r) : z66 a_n a b_n b = true ∧ z5k a_n a b_n b = r := by
  unfold z66 z5k
  rw [h]
  exact ⟨rfl, rfl⟩
noncomputable def z4v {R : Type} (t3 : Int) (b0 : List Nat) (b1 : List Nat) (b2 : List Nat) (q0m : Nat) (q0s : Nat) (q0r : Nat) (t4 : Int) (kn_ : Int → Option R) (k0_ : Unit → Option R) (k1_ : Int → Bool → Option R) : Option R := (br (ltI t4 t3) (grd (okIx t4 q0m) (br (fcmp BinOp.geq FloatKind.f32 (gF b0 (ixO 0 t4 1)) 3204448256) (grd (okIx t4 q0m) (br (bnot (fcmp BinOp.leq FloatKind.f32 (gF b0 (ixO 0 t4 1)) 1056964608)) (k0_ ()) (br (ltI 0 t4) (grd (okIx t4 q0m) (grd (okIx (subI IntKind.i64 t4 1) q0m) (br (fcmp BinOp.leq FloatKind.f32 (gF b0 (ixO 0 t4 1)) (gF b0 (ixO 0 (subI IntKind.i64 t4 1) 1))) (k0_ ()) (grd (okIx t4 q0s) (grd (z4f (gF b1 (ixO 0 t4 1))) (br (bnot (z48 (gF b1 (ixO 0 t4 1)))) (k0_ ()) (grd (okIx t4 q0r) (grd (z5s (gF b2 (ixO 0 t4 1))) (br (bnot (z5h (gF b2 (ixO 0 t4 1)))) (k0_ ()) (kn_ (addI IntKind.i64 t4 1))))))))))) (grd (okIx t4 q0s) (grd (z4f (gF b1 (ixO 0 t4 1))) (br (bnot (z48 (gF b1 (ixO 0 t4 1)))) (k0_ ()) (grd (okIx t4 q0r) (grd (z5s (gF b2 (ixO 0 t4 1))) (br (bnot (z5h (gF b2 (ixO 0 t4 1)))) (k0_ ()) (kn_ (addI IntKind.i64 t4 1))))))))))) (br (bnot Bool.false) (k0_ ()) (br (ltI 0 t4) (grd (okIx t4 q0m) (grd (okIx (subI IntKind.i64 t4 1) q0m) (br (fcmp BinOp.leq FloatKind.f32 (gF b0 (ixO 0 t4 1)) (gF b0 (ixO 0 (subI IntKind.i64 t4 1) 1))) (k0_ ()) (grd (okIx t4 q0s) (grd (z4f (gF b1 (ixO 0 t4 1))) (br (bnot (z48 (gF b1 (ixO 0 t4 1)))) (k0_ ()) (grd (okIx t4 q0r) (grd (z5s (gF b2 (ixO 0 t4 1))) (br (bnot (z5h (gF b2 (ixO 0 t4 1)))) (k0_ ()) (kn_ (addI IntKind.i64 t4 1))))))))))) (grd (okIx t4 q0s) (grd (z4f (gF b1 (ixO 0 t4 1))) (br (bnot (z48 (gF b1 (ixO 0 t4 1)))) (k0_ ()) (grd (okIx t4 q0r) (grd (z5s (gF b2 (ixO 0 t4 1))) (br (bnot (z5h (gF b2 (ixO 0 t4 1)))) (k0_ ()) (kn_ (addI IntKind.i64 t4 1)))))))))))) (k1_ t4 (ltI t4 t3)))
theorem zd6 {R R' : Type} (o : Option R → Option R') (h0 : o none = none) (t3 : Int) (b0 : List Nat) (b1 : List Nat) (b2 : List Nat) (q0m : Nat) (q0s : Nat) (q0r : Nat) (t4 : Int) (kn_ : Int → Option R) (k0_ : Unit → Option R) (k1_ : Int → Bool → Option R) : z4v t3 b0 b1 b2 q0m q0s q0r t4 (fun t4' => o (kn_ t4')) (fun _ => o (k0_ ())) (fun c0_ c1_ => o (k1_ c0_ c1_)) = o (z4v t3 b0 b1 b2 q0m q0s q0r t4 kn_ k0_ k1_) := by
  unfold z4v
  repeat (first | refine grd_out h0 ?_ | refine br_out ?_ ?_ | rfl | exact h0.symm)
noncomputable def z43 (t3 : Int) (b0 : List Nat) (b1 : List Nat) (b2 : List Nat) (q0m : Nat) (q0s : Nat) (q0r : Nat) : Nat → Int → Option ((Unit) ⊕ (Int × Bool))
  | 0, _ => none
  | n + 1, t4 => z4v t3 b0 b1 b2 q0m q0s q0r  t4  (fun t4' => z43 t3 b0 b1 b2 q0m q0s q0r n t4') (fun _ => some (Sum.inl ())) (fun c0_ c1_ => some (Sum.inr (c0_, c1_)))
theorem zau (t3 : Int) (b0 : List Nat) (b1 : List Nat) (b2 : List Nat) (q0m : Nat) (q0s : Nat) (q0r : Nat) (n : Nat) (t4 : Int) : z43 t3 b0 b1 b2 q0m q0s q0r (n + 1) t4 = z4v t3 b0 b1 b2 q0m q0s q0r  t4  (fun t4' => z43 t3 b0 b1 b2 q0m q0s q0r n t4') (fun _ => some (Sum.inl ())) (fun c0_ c1_ => some (Sum.inr (c0_, c1_))) := rfl
noncomputable def z57 (t3 : Int) (b0 : List Nat) (b1 : List Nat) (b2 : List Nat) (q0m : Nat) (q0s : Nat) (q0r : Nat) (t4 : Int) : Bool := (z43 t3 b0 b1 b2 q0m q0s q0r big t4).isSome
noncomputable def z4y (t3 : Int) (b0 : List Nat) (b1 : List Nat) (b2 : List Nat) (q0m : Nat) (q0s : Nat) (q0r : Nat) (t4 : Int) : Bool := oL (z43 t3 b0 b1 b2 q0m q0s q0r big t4)
noncomputable def za8 (t3 : Int) (b0 : List Nat) (b1 : List Nat) (b2 : List Nat) (q0m : Nat) (q0s : Nat) (q0r : Nat) (t4 : Int) : Int := ((tR (z43 t3 b0 b1 b2 q0m q0s q0r big t4)).getD default).1
noncomputable def za6 (t3 : Int) (b0 : List Nat) (b1 : List Nat) (b2 : List Nat) (q0m : Nat) (q0s : Nat) (q0r : Nat) (t4 : Int) : Bool := ((tR (z43 t3 b0 b1 b2 q0m q0s q0r big t4)).getD default).2
theorem zdz {t3 : Int} {b0 : List Nat} {b1 : List Nat} {b2 : List Nat} {q0m : Nat} {q0s : Nat} {q0r : Nat} {t4 : Int} {m : Nat} {r : Unit} (hm : m = big) (h : z43 t3 b0 b1 b2 q0m q0s q0r m t4 = some (Sum.inl r)) : z57 t3 b0 b1 b2 q0m q0s q0r t4 = true ∧ z4y t3 b0 b1 b2 q0m q0s q0r t4 = true := by
  subst hm
  unfold z57 z4y
  rw [h]
  exact ⟨rfl, rfl⟩
theorem ze6 {t3 : Int} {b0 : List Nat} {b1 : List Nat} {b2 : List Nat} {q0m : Nat} {q0s : Nat} {q0r : Nat} {t4 : Int} {m : Nat} {r : Int × Bool} (hm : m = big) (h : z43 t3 b0 b1 b2 q0m q0s q0r m t4 = some (Sum.inr r)) : z57 t3 b0 b1 b2 q0m q0s q0r t4 = true ∧ z4y t3 b0 b1 b2 q0m q0s q0r t4 = false ∧ za8 t3 b0 b1 b2 q0m q0s q0r t4 = r.1 ∧ za6 t3 b0 b1 b2 q0m q0s q0r t4 = r.2 := by
  subst hm
  unfold z57 z4y za8 za6
  rw [h]
  exact ⟨rfl, rfl, rfl, rfl⟩
noncomputable def z2u {R : Type} (sn : Nat) (t7 : Int) (b0 : List Nat) (t8 : Int) (kn_ : Int → Option R) (k0_ : Int → Option R) (k1_ : Int → Bool → Option R) : Option R := (br (ltI t8 t7) (grd (okIx t8 sn) (grd (z8e (gF b0 (ixO 0 t8 1))) (br (z7z (gF b0 (ixO 0 t8 1))) (k0_ t8) (kn_ (addI IntKind.i64 t8 1))))) (k1_ t8 (ltI t8 t7)))
theorem z86 {R R' : Type} (o : Option R → Option R') (h0 : o none = none) (sn : Nat) (t7 : Int) (b0 : List Nat) (t8 : Int) (kn_ : Int → Option R) (k0_ : Int → Option R) (k1_ : Int → Bool → Option R) : z2u sn t7 b0 t8 (fun t8' => o (kn_ t8')) (fun c0_ => o (k0_ c0_)) (fun c0_ c1_ => o (k1_ c0_ c1_)) = o (z2u sn t7 b0 t8 kn_ k0_ k1_) := by
  unfold z2u
  repeat (first | refine grd_out h0 ?_ | refine br_out ?_ ?_ | rfl | exact h0.symm)
noncomputable def z19 (sn : Nat) (t7 : Int) (b0 : List Nat) : Nat → Int → Option ((Int) ⊕ (Int × Bool))
  | 0, _ => none
  | n + 1, t8 => z2u sn t7 b0  t8  (fun t8' => z19 sn t7 b0 n t8') (fun c0_ => some (Sum.inl c0_)) (fun c0_ c1_ => some (Sum.inr (c0_, c1_)))
theorem z50 (sn : Nat) (t7 : Int) (b0 : List Nat) (n : Nat) (t8 : Int) : z19 sn t7 b0 (n + 1) t8 = z2u sn t7 b0  t8  (fun t8' => z19 sn t7 b0 n t8') (fun c0_ => some (Sum.inl c0_)) (fun c0_ c1_ => some (Sum.inr (c0_, c1_))) := rfl
noncomputable def z3b (sn : Nat) (t7 : Int) (b0 : List Nat) (t8 : Int) : Bool := (z19 sn t7 b0 big t8).isSome
noncomputable def z3a (sn : Nat) (t7 : Int) (b0 : List Nat) (t8 : Int) : Bool := oL (z19 sn t7 b0 big t8)
noncomputable def z3y (sn : Nat) (t7 : Int) (b0 : List Nat) (t8 : Int) : Int := ((tL (z19 sn t7 b0 big t8)).getD default)
noncomputable def z4k (sn : Nat) (t7 : Int) (b0 : List Nat) (t8 : Int) : Int := ((tR (z19 sn t7 b0 big t8)).getD default).1
noncomputable def z4l (sn : Nat) (t7 : Int) (b0 : List Nat) (t8 : Int) : Bool := ((tR (z19 sn t7 b0 big t8)).getD default).2
theorem z8p {sn : Nat} {t7 : Int} {b0 : List Nat} {t8 : Int} {m : Nat} {r : Int} (hm : m = big) (h : z19 sn t7 b0 m t8 = some (Sum.inl r)) : z3b sn t7 b0 t8 = true ∧ z3a sn t7 b0 t8 = true ∧ z3y sn t7 b0 t8 = r := by
  subst hm
  unfold z3b z3a z3y
  rw [h]
  exact ⟨rfl, rfl, rfl⟩
theorem z8o {sn : Nat} {t7 : Int} {b0 : List Nat} {t8 : Int} {m : Nat} {r : Int × Bool} (hm : m = big) (h : z19 sn t7 b0 m t8 = some (Sum.inr r)) : z3b sn t7 b0 t8 = true ∧ z3a sn t7 b0 t8 = false ∧ z4k sn t7 b0 t8 = r.1 ∧ z4l sn t7 b0 t8 = r.2 := by
  subst hm
  unfold z3b z3a z4k z4l
  rw [h]
  exact ⟨rfl, rfl, rfl, rfl⟩
noncomputable def z6g {R : Type} (q0g : Nat) (q0n : List Nat) (q0i : Nat) (q0o : List Nat) (q0l : Nat) (q0p : List Nat) (q0w : Nat) (q10 : List Nat) (q0x : Nat) (q16 : List Nat) (q0y : Nat) (q15 : List Nat) (k_ : Bool → Option R) : Option R := (grd (z66 q0g (pF q0n 0 (muN q0g 1)) q0w (pF q10 0 (muN q0w 1))) (br (bnot (z5k q0g (pF q0n 0 (muN q0g 1)) q0w (pF q10 0 (muN q0w 1)))) (k_ Bool.false) (grd (z66 q0i (pF q0o 0 (muN q0i 1)) q0x (pF q16 0 (muN q0x 1))) (br (bnot (z5k q0i (pF q0o 0 (muN q0i 1)) q0x (pF q16 0 (muN q0x 1)))) (k_ Bool.false) (grd (z66 q0l (pF q0p 0 (muN q0l 1)) q0y (pF q15 0 (muN q0y 1))) (br (bnot (z5k q0l (pF q0p 0 (muN q0l 1)) q0y (pF q15 0 (muN q0y 1)))) (k_ Bool.false) (k_ Bool.true)))))))
noncomputable def z6p (q0g : Nat) (q0n : List Nat) (q0i : Nat) (q0o : List Nat) (q0l : Nat) (q0p : List Nat) (q0w : Nat) (q10 : List Nat) (q0x : Nat) (q16 : List Nat) (q0y : Nat) (q15 : List Nat) : Option (Bool) := z6g q0g q0n q0i q0o q0l q0p q0w q10 q0x q16 q0y q15 (fun c0_ => some c0_)
theorem zcn {R R' : Type} (o : Option R → Option R') (h0 : o none = none) (q0g : Nat) (q0n : List Nat) (q0i : Nat) (q0o : List Nat) (q0l : Nat) (q0p : List Nat) (q0w : Nat) (q10 : List Nat) (q0x : Nat) (q16 : List Nat) (q0y : Nat) (q15 : List Nat) (k_ : Bool → Option R) : z6g q0g q0n q0i q0o q0l q0p q0w q10 q0x q16 q0y q15 (fun c0_ => o (k_ c0_)) = o (z6g q0g q0n q0i q0o q0l q0p q0w q10 q0x q16 q0y q15 k_) := by
  unfold z6g
  repeat (first | refine grd_out h0 ?_ | refine br_out ?_ ?_ | rfl | exact h0.symm)
noncomputable def z7r (q0g : Nat) (q0n : List Nat) (q0i : Nat) (q0o : List Nat) (q0l : Nat) (q0p : List Nat) (q0w : Nat) (q10 : List Nat) (q0x : Nat) (q16 : List Nat) (q0y : Nat) (q15 : List Nat) : Bool := (z6p q0g q0n q0i q0o q0l q0p q0w q10 q0x q16 q0y q15).isSome
noncomputable def z73 (q0g : Nat) (q0n : List Nat) (q0i : Nat) (q0o : List Nat) (q0l : Nat) (q0p : List Nat) (q0w : Nat) (q10 : List Nat) (q0x : Nat) (q16 : List Nat) (q0y : Nat) (q15 : List Nat) : Bool := ((z6p q0g q0n q0i q0o q0l q0p q0w q10 q0x q16 q0y q15).getD default)
theorem zds {q0g : Nat} {q0n : List Nat} {q0i : Nat} {q0o : List Nat} {q0l : Nat} {q0p : List Nat} {q0w : Nat} {q10 : List Nat} {q0x : Nat} {q16 : List Nat} {q0y : Nat} {q15 : List Nat} {r : Bool} (h : z6p q0g q0n q0i q0o q0l q0p q0w q10 q0x q16 q0y q15 = some r) : z7r q0g q0n q0i q0o q0l q0p q0w q10 q0x q16 q0y q15 = true ∧ z73 q0g q0n q0i q0o q0l q0p q0w q10 q0x q16 q0y q15 = r := by
  unfold z7r z73
  rw [h]
  exact ⟨rfl, rfl⟩
noncomputable def z9c {R : Type} (q00 : Nat) (q01 : List Nat) (q09 : Nat) (q0c : List Nat) (q08 : Nat) (q0d : List Nat) (k_ : Bool → Option R) : Option R := (br (ltI (Int.ofNat q00) 2) (k_ Bool.false) (br (ltI 24 (Int.ofNat q00)) (k_ Bool.false) (br (neI (Int.ofNat q09) (Int.ofNat q00)) (k_ Bool.false) (br (neI (Int.ofNat q08) (Int.ofNat q00)) (k_ Bool.false) (grd (z57 (Int.ofNat q00) q01 q0c q0d q00 q09 q08 0) (br (z4y (Int.ofNat q00) q01 q0c q0d q00 q09 q08 0) (k_ Bool.false) (k_ Bool.true)))))))
noncomputable def z97 (q00 : Nat) (q01 : List Nat) (q09 : Nat) (q0c : List Nat) (q08 : Nat) (q0d : List Nat) : Option (Bool) := z9c q00 q01 q09 q0c q08 q0d (fun c0_ => some c0_)
theorem zel {R R' : Type} (o : Option R → Option R') (h0 : o none = none) (q00 : Nat) (q01 : List Nat) (q09 : Nat) (q0c : List Nat) (q08 : Nat) (q0d : List Nat) (k_ : Bool → Option R) : z9c q00 q01 q09 q0c q08 q0d (fun c0_ => o (k_ c0_)) = o (z9c q00 q01 q09 q0c q08 q0d k_) := by
  unfold z9c
  repeat (first | refine grd_out h0 ?_ | refine br_out ?_ ?_ | rfl | exact h0.symm)
noncomputable def zav (q00 : Nat) (q01 : List Nat) (q09 : Nat) (q0c : List Nat) (q08 : Nat) (q0d : List Nat) : Bool := (z97 q00 q01 q09 q0c q08 q0d).isSome
noncomputable def zao (q00 : Nat) (q01 : List Nat) (q09 : Nat) (q0c : List Nat) (q08 : Nat) (q0d : List Nat) : Bool := ((z97 q00 q01 q09 q0c q08 q0d).getD default)
theorem zfc {q00 : Nat} {q01 : List Nat} {q09 : Nat} {q0c : List Nat} {q08 : Nat} {q0d : List Nat} {r : Bool} (h : z97 q00 q01 q09 q0c q08 q0d = some r) : zav q00 q01 q09 q0c q08 q0d = true ∧ zao q00 q01 q09 q0c q08 q0d = r := by
  unfold zav zao
  rw [h]
  exact ⟨rfl, rfl⟩
noncomputable def z3m {R : Type} (s_n : Nat) (s : List Nat) (k_ : Int → Option R) : Option R := (grd (z3b s_n (Int.ofNat s_n) s 0) (br (z3a s_n (Int.ofNat s_n) s 0) (k_ (z3y s_n (Int.ofNat s_n) s 0)) (k_ (Int.negSucc 0))))
noncomputable def z3n (s_n : Nat) (s : List Nat) : Option (Int) := z3m s_n s (fun c0_ => some c0_)
theorem z8s {R R' : Type} (o : Option R → Option R') (h0 : o none = none) (s_n : Nat) (s : List Nat) (k_ : Int → Option R) : z3m s_n s (fun c0_ => o (k_ c0_)) = o (z3m s_n s k_) := by
  unfold z3m
  repeat (first | refine grd_out h0 ?_ | refine br_out ?_ ?_ | rfl | exact h0.symm)
noncomputable def z4d (s_n : Nat) (s : List Nat) : Bool := (z3n s_n s).isSome
noncomputable def z4a (s_n : Nat) (s : List Nat) : Int := ((z3n s_n s).getD default)
theorem z9q {s_n : Nat} {s : List Nat} {r : Int} (h : z3n s_n s = some r) : z4d s_n s = true ∧ z4a s_n s = r := by
  unfold z4d z4a
  rw [h]
  exact ⟨rfl, rfl⟩
noncomputable def z2x {R : Type} (sn : Nat) (t7 : Int) (b0 : List Nat) (t8 : Int) (kn_ : Int → Option R) (k0_ : Int → Option R) (k1_ : Int → Bool → Option R) : Option R := (br (ltI t8 t7) (grd (okIx t8 sn) (grd (z8y (gF b0 (ixO 0 t8 1))) (br (z8m (gF b0 (ixO 0 t8 1))) (k0_ t8) (kn_ (addI IntKind.i64 t8 1))))) (k1_ t8 (ltI t8 t7)))
theorem z8j {R R' : Type} (o : Option R → Option R') (h0 : o none = none) (sn : Nat) (t7 : Int) (b0 : List Nat) (t8 : Int) (kn_ : Int → Option R) (k0_ : Int → Option R) (k1_ : Int → Bool → Option R) : z2x sn t7 b0 t8 (fun t8' => o (kn_ t8')) (fun c0_ => o (k0_ c0_)) (fun c0_ c1_ => o (k1_ c0_ c1_)) = o (z2x sn t7 b0 t8 kn_ k0_ k1_) := by
  unfold z2x
  repeat (first | refine grd_out h0 ?_ | refine br_out ?_ ?_ | rfl | exact h0.symm)
noncomputable def z1f (sn : Nat) (t7 : Int) (b0 : List Nat) : Nat → Int → Option ((Int) ⊕ (Int × Bool))
  | 0, _ => none
  | n + 1, t8 => z2x sn t7 b0  t8  (fun t8' => z1f sn t7 b0 n t8') (fun c0_ => some (Sum.inl c0_)) (fun c0_ c1_ => some (Sum.inr (c0_, c1_)))
theorem z53 (sn : Nat) (t7 : Int) (b0 : List Nat) (n : Nat) (t8 : Int) : z1f sn t7 b0 (n + 1) t8 = z2x sn t7 b0  t8  (fun t8' => z1f sn t7 b0 n t8') (fun c0_ => some (Sum.inl c0_)) (fun c0_ c1_ => some (Sum.inr (c0_, c1_))) := rfl
noncomputable def z3l (sn : Nat) (t7 : Int) (b0 : List Nat) (t8 : Int) : Bool := (z1f sn t7 b0 big t8).isSome
noncomputable def z3c (sn : Nat) (t7 : Int) (b0 : List Nat) (t8 : Int) : Bool := oL (z1f sn t7 b0 big t8)
noncomputable def z41 (sn : Nat) (t7 : Int) (b0 : List Nat) (t8 : Int) : Int := ((tL (z1f sn t7 b0 big t8)).getD default)
noncomputable def z4p (sn : Nat) (t7 : Int) (b0 : List Nat) (t8 : Int) : Int := ((tR (z1f sn t7 b0 big t8)).getD default).1
noncomputable def z4n (sn : Nat) (t7 : Int) (b0 : List Nat) (t8 : Int) : Bool := ((tR (z1f sn t7 b0 big t8)).getD default).2
theorem z8r {sn : Nat} {t7 : Int} {b0 : List Nat} {t8 : Int} {m : Nat} {r : Int} (hm : m = big) (h : z1f sn t7 b0 m t8 = some (Sum.inl r)) : z3l sn t7 b0 t8 = true ∧ z3c sn t7 b0 t8 = true ∧ z41 sn t7 b0 t8 = r := by
  subst hm
  unfold z3l z3c z41
  rw [h]
  exact ⟨rfl, rfl, rfl⟩
theorem z8t {sn : Nat} {t7 : Int} {b0 : List Nat} {t8 : Int} {m : Nat} {r : Int × Bool} (hm : m = big) (h : z1f sn t7 b0 m t8 = some (Sum.inr r)) : z3l sn t7 b0 t8 = true ∧ z3c sn t7 b0 t8 = false ∧ z4p sn t7 b0 t8 = r.1 ∧ z4n sn t7 b0 t8 = r.2 := by
  subst hm
  unfold z3l z3c z4p z4n
  rw [h]
  exact ⟨rfl, rfl, rfl, rfl⟩
noncomputable def z8c {R : Type} (q02 : Nat) (q0a : List Nat) (q03 : Nat) (q0b : List Nat) (q04 : Nat) (q0e : List Nat) (q0f : Nat) (k_ : Bool → Option R) : Option R := (grd (zav q02 (pF q0a 0 (muN q02 1)) q03 (pF q0b 0 (muN q03 1)) q04 (pF q0e 0 (muN q04 1))) (br (zao q02 (pF q0a 0 (muN q02 1)) q03 (pF q0b 0 (muN q03 1)) q04 (pF q0e 0 (muN q04 1))) (grd (z4f q0f) (k_ (z48 q0f))) (k_ Bool.false)))
noncomputable def z8a (q02 : Nat) (q0a : List Nat) (q03 : Nat) (q0b : List Nat) (q04 : Nat) (q0e : List Nat) (q0f : Nat) : Option (Bool) := z8c q02 q0a q03 q0b q04 q0e q0f (fun c0_ => some c0_)
theorem ze1 {R R' : Type} (o : Option R → Option R') (h0 : o none = none) (q02 : Nat) (q0a : List Nat) (q03 : Nat) (q0b : List Nat) (q04 : Nat) (q0e : List Nat) (q0f : Nat) (k_ : Bool → Option R) : z8c q02 q0a q03 q0b q04 q0e q0f (fun c0_ => o (k_ c0_)) = o (z8c q02 q0a q03 q0b q04 q0e q0f k_) := by
  unfold z8c
  repeat (first | refine grd_out h0 ?_ | refine br_out ?_ ?_ | rfl | exact h0.symm)
noncomputable def zap (q02 : Nat) (q0a : List Nat) (q03 : Nat) (q0b : List Nat) (q04 : Nat) (q0e : List Nat) (q0f : Nat) : Bool := (z8a q02 q0a q03 q0b q04 q0e q0f).isSome
noncomputable def zai (q02 : Nat) (q0a : List Nat) (q03 : Nat) (q0b : List Nat) (q04 : Nat) (q0e : List Nat) (q0f : Nat) : Bool := ((z8a q02 q0a q03 q0b q04 q0e q0f).getD default)
theorem zf5 {q02 : Nat} {q0a : List Nat} {q03 : Nat} {q0b : List Nat} {q04 : Nat} {q0e : List Nat} {q0f : Nat} {r : Bool} (h : z8a q02 q0a q03 q0b q04 q0e q0f = some r) : zap q02 q0a q03 q0b q04 q0e q0f = true ∧ zai q02 q0a q03 q0b q04 q0e q0f = r := by
  unfold zap zai
  rw [h]
  exact ⟨rfl, rfl⟩
noncomputable def z3q {R : Type} (s_n : Nat) (s : List Nat) (k_ : Int → Option R) : Option R := (grd (z3l s_n (Int.ofNat s_n) s 0) (br (z3c s_n (Int.ofNat s_n) s 0) (k_ (z41 s_n (Int.ofNat s_n) s 0)) (k_ (Int.negSucc 0))))
noncomputable def z3p (s_n : Nat) (s : List Nat) : Option (Int) := z3q s_n s (fun c0_ => some c0_)
theorem z98 {R R' : Type} (o : Option R → Option R') (h0 : o none = none) (s_n : Nat) (s : List Nat) (k_ : Int → Option R) : z3q s_n s (fun c0_ => o (k_ c0_)) = o (z3q s_n s k_) := by
  unfold z3q
  repeat (first | refine grd_out h0 ?_ | refine br_out ?_ ?_ | rfl | exact h0.symm)
noncomputable def z4i (s_n : Nat) (s : List Nat) : Bool := (z3p s_n s).isSome
noncomputable def z4c (s_n : Nat) (s : List Nat) : Int := ((z3p s_n s).getD default)
theorem z9u {s_n : Nat} {s : List Nat} {r : Int} (h : z3p s_n s = some r) : z4i s_n s = true ∧ z4c s_n s = r := by
  unfold z4i z4c
  rw [h]
  exact ⟨rfl, rfl⟩
noncomputable def z9e {R : Type} (x : Nat) (k_ : Nat → Option R) : Option R := (grd (bnot (nanQ FloatKind.f64 x)) (k_ (fint Ieee.Toward.down x)))
noncomputable def z96 (x : Nat) : Option (Nat) := z9e x (fun c0_ => some c0_)
theorem zer {R R' : Type} (o : Option R → Option R') (h0 : o none = none) (x : Nat) (k_ : Nat → Option R) : z9e x (fun c0_ => o (k_ c0_)) = o (z9e x k_) := by
  unfold z9e
  repeat (first | refine grd_out h0 ?_ | refine br_out ?_ ?_ | rfl | exact h0.symm)
noncomputable def za4 (x : Nat) : Bool := (z96 x).isSome
noncomputable def z5d (x : Nat) : Nat := ((z96 x).getD default)
theorem zd3 {x : Nat} {r : Nat} (h : z96 x = some r) : za4 x = true ∧ z5d x = r := by
  unfold za4 z5d
  rw [h]
  exact ⟨rfl, rfl⟩
noncomputable def z7k {R : Type} (x : Nat) (k_ : Nat → Option R) : Option R := (grd (za4 (fop BinOp.add FloatKind.f64 (fcvV FloatKind.f32 FloatKind.f64 x) 4602678819172646912)) (grd (z9o (fop BinOp.sub FloatKind.f64 (fcvV FloatKind.f32 FloatKind.f64 x) (z5d (fop BinOp.add FloatKind.f64 (fcvV FloatKind.f32 FloatKind.f64 x) 4602678819172646912)))) (br (fcmp BinOp.geq FloatKind.f32 (z7b (fop BinOp.sub FloatKind.f64 (fcvV FloatKind.f32 FloatKind.f64 x) (z5d (fop BinOp.add FloatKind.f64 (fcvV FloatKind.f32 FloatKind.f64 x) 4602678819172646912)))) 1056964608) (k_ 3204448256) (k_ (z7b (fop BinOp.sub FloatKind.f64 (fcvV FloatKind.f32 FloatKind.f64 x) (z5d (fop BinOp.add FloatKind.f64 (fcvV FloatKind.f32 FloatKind.f64 x) 4602678819172646912))))))))
noncomputable def z7i (x : Nat) : Option (Nat) := z7k x (fun c0_ => some c0_)
theorem zdh {R R' : Type} (o : Option R → Option R') (h0 : o none = none) (x : Nat) (k_ : Nat → Option R) : z7k x (fun c0_ => o (k_ c0_)) = o (z7k x k_) := by
  unfold z7k
  repeat (first | refine grd_out h0 ?_ | refine br_out ?_ ?_ | rfl | exact h0.symm)
noncomputable def zag (x : Nat) : Bool := (z7i x).isSome
noncomputable def z01 (x : Nat) : Nat := ((z7i x).getD default)
theorem zex {x : Nat} {r : Nat} (h : z7i x = some r) : zag x = true ∧ z01 x = r := by
  unfold zag z01
  rw [h]
  exact ⟨rfl, rfl⟩
noncomputable def z6q {R : Type} (x : Nat) (k_ : Nat → Option R) : Option R := (grd (za4 (fop BinOp.add FloatKind.f64 (fcvV FloatKind.f32 FloatKind.f64 x) 4602678819172646912)) (grd (fcvB FloatKind.f64 FloatKind.f32 (fop BinOp.sub FloatKind.f64 (fcvV FloatKind.f32 FloatKind.f64 x) (z5d (fop BinOp.add FloatKind.f64 (fcvV FloatKind.f32 FloatKind.f64 x) 4602678819172646912)))) (br (fcmp BinOp.geq FloatKind.f32 (fcvV FloatKind.f64 FloatKind.f32 (fop BinOp.sub FloatKind.f64 (fcvV FloatKind.f32 FloatKind.f64 x) (z5d (fop BinOp.add FloatKind.f64 (fcvV FloatKind.f32 FloatKind.f64 x) 4602678819172646912)))) 1056964608) (k_ 3204448256) (k_ (fcvV FloatKind.f64 FloatKind.f32 (fop BinOp.sub FloatKind.f64 (fcvV FloatKind.f32 FloatKind.f64 x) (z5d (fop BinOp.add FloatKind.f64 (fcvV FloatKind.f32 FloatKind.f64 x) 4602678819172646912))))))))
noncomputable def z6e (x : Nat) : Option (Nat) := z6q x (fun c0_ => some c0_)
theorem zcu {R R' : Type} (o : Option R → Option R') (h0 : o none = none) (x : Nat) (k_ : Nat → Option R) : z6q x (fun c0_ => o (k_ c0_)) = o (z6q x k_) := by
  unfold z6q
  repeat (first | refine grd_out h0 ?_ | refine br_out ?_ ?_ | rfl | exact h0.symm)
noncomputable def z9s (x : Nat) : Bool := (z6e x).isSome
noncomputable def z35 (x : Nat) : Nat := ((z6e x).getD default)
theorem zdu {x : Nat} {r : Nat} (h : z6e x = some r) : z9s x = true ∧ z35 x = r := by
  unfold z9s z35
  rw [h]
  exact ⟨rfl, rfl⟩
noncomputable def z3d {R : Type} (s_n : Nat) (s : List Nat) (k_ : Bool → Option R) : Option R := (grd (z4d s_n (pF s 0 (muN s_n 1))) (k_ (leI 0 (z4a s_n (pF s 0 (muN s_n 1))))))
noncomputable def z3e (s_n : Nat) (s : List Nat) : Option (Bool) := z3d s_n s (fun c0_ => some c0_)
theorem z88 {R R' : Type} (o : Option R → Option R') (h0 : o none = none) (s_n : Nat) (s : List Nat) (k_ : Bool → Option R) : z3d s_n s (fun c0_ => o (k_ c0_)) = o (z3d s_n s k_) := by
  unfold z3d
  repeat (first | refine grd_out h0 ?_ | refine br_out ?_ ?_ | rfl | exact h0.symm)
noncomputable def z44 (s_n : Nat) (s : List Nat) : Bool := (z3e s_n s).isSome
noncomputable def z42 (s_n : Nat) (s : List Nat) : Bool := ((z3e s_n s).getD default)
theorem z8q {s_n : Nat} {s : List Nat} {r : Bool} (h : z3e s_n s = some r) : z44 s_n s = true ∧ z42 s_n s = r := by
  unfold z44 z42
  rw [h]
  exact ⟨rfl, rfl⟩
noncomputable def z3k {R : Type} (s_n : Nat) (s : List Nat) (k_ : Bool → Option R) : Option R := (grd (z4i s_n (pF s 0 (muN s_n 1))) (k_ (leI 0 (z4c s_n (pF s 0 (muN s_n 1))))))
noncomputable def z3j (s_n : Nat) (s : List Nat) : Option (Bool) := z3k s_n s (fun c0_ => some c0_)
theorem z8g {R R' : Type} (o : Option R → Option R') (h0 : o none = none) (s_n : Nat) (s : List Nat) (k_ : Bool → Option R) : z3k s_n s (fun c0_ => o (k_ c0_)) = o (z3k s_n s k_) := by
  unfold z3k
  repeat (first | refine grd_out h0 ?_ | refine br_out ?_ ?_ | rfl | exact h0.symm)
noncomputable def z47 (s_n : Nat) (s : List Nat) : Bool := (z3j s_n s).isSome
noncomputable def z45 (s_n : Nat) (s : List Nat) : Bool := ((z3j s_n s).getD default)
theorem z9d {s_n : Nat} {s : List Nat} {r : Bool} (h : z3j s_n s = some r) : z47 s_n s = true ∧ z45 s_n s = r := by
  unfold z47 z45
  rw [h]
  exact ⟨rfl, rfl⟩
noncomputable def z6a {R : Type} (q0q : Nat) (q0u : List Nat) (k_ : Bool → Option R) : Option R := (grd (z44 q0q (pF q0u 0 (muN q0q 1))) (k_ (bnot (z42 q0q (pF q0u 0 (muN q0q 1))))))
noncomputable def z6h (q0q : Nat) (q0u : List Nat) : Option (Bool) := z6a q0q q0u (fun c0_ => some c0_)
theorem zcs {R R' : Type} (o : Option R → Option R') (h0 : o none = none) (q0q : Nat) (q0u : List Nat) (k_ : Bool → Option R) : z6a q0q q0u (fun c0_ => o (k_ c0_)) = o (z6a q0q q0u k_) := by
  unfold z6a
  repeat (first | refine grd_out h0 ?_ | refine br_out ?_ ?_ | rfl | exact h0.symm)
noncomputable def z9n (q0q : Nat) (q0u : List Nat) : Bool := (z6h q0q q0u).isSome
noncomputable def z91 (q0q : Nat) (q0u : List Nat) : Bool := ((z6h q0q q0u).getD default)
theorem zdy {q0q : Nat} {q0u : List Nat} {r : Bool} (h : z6h q0q q0u = some r) : z9n q0q q0u = true ∧ z91 q0q q0u = r := by
  unfold z9n z91
  rw [h]
  exact ⟨rfl, rfl⟩
noncomputable def z6v {R : Type} (q0q : Nat) (q0u : List Nat) (k_ : Bool → Option R) : Option R := (grd (z47 q0q (pF q0u 0 (muN q0q 1))) (k_ (bnot (z45 q0q (pF q0u 0 (muN q0q 1))))))
noncomputable def z70 (q0q : Nat) (q0u : List Nat) : Option (Bool) := z6v q0q q0u (fun c0_ => some c0_)
theorem zd7 {R R' : Type} (o : Option R → Option R') (h0 : o none = none) (q0q : Nat) (q0u : List Nat) (k_ : Bool → Option R) : z6v q0q q0u (fun c0_ => o (k_ c0_)) = o (z6v q0q q0u k_) := by
  unfold z6v
  repeat (first | refine grd_out h0 ?_ | refine br_out ?_ ?_ | rfl | exact h0.symm)
noncomputable def z9x (q0q : Nat) (q0u : List Nat) : Bool := (z70 q0q q0u).isSome
noncomputable def z9l (q0q : Nat) (q0u : List Nat) : Bool := ((z70 q0q q0u).getD default)
theorem zen {q0q : Nat} {q0u : List Nat} {r : Bool} (h : z70 q0q q0u = some r) : z9x q0q q0u = true ∧ z9l q0q q0u = r := by
  unfold z9x z9l
  rw [h]
  exact ⟨rfl, rfl⟩
noncomputable def z4q {R : Type} (t8 : Nat) (b0 : List Nat) (q0m : Nat) (t10 : Int) (kn_ : Int → Option R) (k0_ : Int → Bool → Option R) : Option R := (br (leI 0 t10) (grd (okIx t10 q0m) (br (fcmp BinOp.gtr FloatKind.f32 (gF b0 (ixO 0 t10 1)) t8) (kn_ (subI IntKind.i64 t10 1)) (k0_ t10 (fcmp BinOp.gtr FloatKind.f32 (gF b0 (ixO 0 t10 1)) t8)))) (k0_ t10 Bool.false))
theorem zch {R R' : Type} (o : Option R → Option R') (h0 : o none = none) (t8 : Nat) (b0 : List Nat) (q0m : Nat) (t10 : Int) (kn_ : Int → Option R) (k0_ : Int → Bool → Option R) : z4q t8 b0 q0m t10 (fun t10' => o (kn_ t10')) (fun c0_ c1_ => o (k0_ c0_ c1_)) = o (z4q t8 b0 q0m t10 kn_ k0_) := by
  unfold z4q
  repeat (first | refine grd_out h0 ?_ | refine br_out ?_ ?_ | rfl | exact h0.symm)
noncomputable def z3z (t8 : Nat) (b0 : List Nat) (q0m : Nat) : Nat → Int → Option ((Int × Bool))
  | 0, _ => none
  | n + 1, t10 => z4q t8 b0 q0m  t10  (fun t10' => z3z t8 b0 q0m n t10') (fun c0_ c1_ => some (c0_, c1_))
theorem zak (t8 : Nat) (b0 : List Nat) (q0m : Nat) (n : Nat) (t10 : Int) : z3z t8 b0 q0m (n + 1) t10 = z4q t8 b0 q0m  t10  (fun t10' => z3z t8 b0 q0m n t10') (fun c0_ c1_ => some (c0_, c1_)) := rfl
noncomputable def z8v (t8 : Nat) (b0 : List Nat) (q0m : Nat) (t10 : Int) : Bool := (z3z t8 b0 q0m big t10).isSome
noncomputable def z00 (t8 : Nat) (b0 : List Nat) (q0m : Nat) (t10 : Int) : Int := ((z3z t8 b0 q0m big t10).getD default).1
noncomputable def z9m (t8 : Nat) (b0 : List Nat) (q0m : Nat) (t10 : Int) : Bool := ((z3z t8 b0 q0m big t10).getD default).2
theorem zax {t8 : Nat} {b0 : List Nat} {q0m : Nat} {t10 : Int} {m : Nat} {r : Int × Bool} (hm : m = big) (h : z3z t8 b0 q0m m t10 = some r) : z8v t8 b0 q0m t10 = true ∧ z00 t8 b0 q0m t10 = r.1 ∧ z9m t8 b0 q0m t10 = r.2 := by
  subst hm
  unfold z8v z00 z9m
  rw [h]
  exact ⟨rfl, rfl, rfl⟩
noncomputable def z2q {R : Type} (sn : Nat) (t7 : Int) (b0 : List Nat) (b4 : Nat) (t8 : Int) (kn_ : Int → Option R) (k0_ : Int → Option R) (k1_ : Int → Bool → Option R) : Option R := (br (ltI t8 t7) (grd (okIx t8 sn) (br (fcmp BinOp.gtr FloatKind.f32 (gF b0 (ixO 0 t8 1)) b4) (k0_ t8) (kn_ (addI IntKind.i64 t8 1)))) (k1_ t8 (ltI t8 t7)))
theorem z7j {R R' : Type} (o : Option R → Option R') (h0 : o none = none) (sn : Nat) (t7 : Int) (b0 : List Nat) (b4 : Nat) (t8 : Int) (kn_ : Int → Option R) (k0_ : Int → Option R) (k1_ : Int → Bool → Option R) : z2q sn t7 b0 b4 t8 (fun t8' => o (kn_ t8')) (fun c0_ => o (k0_ c0_)) (fun c0_ c1_ => o (k1_ c0_ c1_)) = o (z2q sn t7 b0 b4 t8 kn_ k0_ k1_) := by
  unfold z2q
  repeat (first | refine grd_out h0 ?_ | refine br_out ?_ ?_ | rfl | exact h0.symm)
noncomputable def z0l (sn : Nat) (t7 : Int) (b0 : List Nat) (b4 : Nat) : Nat → Int → Option ((Int) ⊕ (Int × Bool))
  | 0, _ => none
  | n + 1, t8 => z2q sn t7 b0 b4  t8  (fun t8' => z0l sn t7 b0 b4 n t8') (fun c0_ => some (Sum.inl c0_)) (fun c0_ c1_ => some (Sum.inr (c0_, c1_)))
theorem z4x (sn : Nat) (t7 : Int) (b0 : List Nat) (b4 : Nat) (n : Nat) (t8 : Int) : z0l sn t7 b0 b4 (n + 1) t8 = z2q sn t7 b0 b4  t8  (fun t8' => z0l sn t7 b0 b4 n t8') (fun c0_ => some (Sum.inl c0_)) (fun c0_ c1_ => some (Sum.inr (c0_, c1_))) := rfl
noncomputable def z38 (sn : Nat) (t7 : Int) (b0 : List Nat) (b4 : Nat) (t8 : Int) : Bool := (z0l sn t7 b0 b4 big t8).isSome
noncomputable def z37 (sn : Nat) (t7 : Int) (b0 : List Nat) (b4 : Nat) (t8 : Int) : Bool := oL (z0l sn t7 b0 b4 big t8)
noncomputable def z1t (sn : Nat) (t7 : Int) (b0 : List Nat) (b4 : Nat) (t8 : Int) : Int := ((tL (z0l sn t7 b0 b4 big t8)).getD default)
noncomputable def z4h (sn : Nat) (t7 : Int) (b0 : List Nat) (b4 : Nat) (t8 : Int) : Int := ((tR (z0l sn t7 b0 b4 big t8)).getD default).1
noncomputable def z4g (sn : Nat) (t7 : Int) (b0 : List Nat) (b4 : Nat) (t8 : Int) : Bool := ((tR (z0l sn t7 b0 b4 big t8)).getD default).2
theorem z80 {sn : Nat} {t7 : Int} {b0 : List Nat} {b4 : Nat} {t8 : Int} {m : Nat} {r : Int} (hm : m = big) (h : z0l sn t7 b0 b4 m t8 = some (Sum.inl r)) : z38 sn t7 b0 b4 t8 = true ∧ z37 sn t7 b0 b4 t8 = true ∧ z1t sn t7 b0 b4 t8 = r := by
  subst hm
  unfold z38 z37 z1t
  rw [h]
  exact ⟨rfl, rfl, rfl⟩
theorem z81 {sn : Nat} {t7 : Int} {b0 : List Nat} {b4 : Nat} {t8 : Int} {m : Nat} {r : Int × Bool} (hm : m = big) (h : z0l sn t7 b0 b4 m t8 = some (Sum.inr r)) : z38 sn t7 b0 b4 t8 = true ∧ z37 sn t7 b0 b4 t8 = false ∧ z4h sn t7 b0 b4 t8 = r.1 ∧ z4g sn t7 b0 b4 t8 = r.2 := by
  subst hm
  unfold z38 z37 z4h z4g
  rw [h]
  exact ⟨rfl, rfl, rfl, rfl⟩
noncomputable def z6r {R : Type} (q00 : Nat) (q01 : List Nat) (q09 : Nat) (q0c : List Nat) (q08 : Nat) (q0d : List Nat) (x1 : Nat) (k_ : Int → Int → Nat → Nat → Option R) : Option R := (grd (zag x1) (grd (z8v (z01 x1) q01 q00 (subI IntKind.i64 (Int.ofNat q00) 1)) (br (ltI (z00 (z01 x1) q01 q00 (subI IntKind.i64 (Int.ofNat q00) 1)) 0) (grd (okIx (subI IntKind.i64 (Int.ofNat q00) 1) q00) (grd (okIx 0 q00) (br (eqI 0 0) (br (fcmp BinOp.lss FloatKind.f32 (z01 x1) (gF q01 (ixO 0 0 1))) (br (fcmp BinOp.eql FloatKind.f32 (fop BinOp.sub FloatKind.f32 (gF q01 (ixO 0 0 1)) (fop BinOp.sub FloatKind.f32 (gF q01 (ixO 0 (subI IntKind.i64 (Int.ofNat q00) 1) 1)) 1065353216)) 0) (k_ (subI IntKind.i64 (Int.ofNat q00) 1) 0 0 (fop BinOp.sub FloatKind.f32 (gF q01 (ixO 0 0 1)) (fop BinOp.sub FloatKind.f32 (gF q01 (ixO 0 (subI IntKind.i64 (Int.ofNat q00) 1) 1)) 1065353216))) (k_ (subI IntKind.i64 (Int.ofNat q00) 1) 0 (fop BinOp.quo FloatKind.f32 (fop BinOp.sub FloatKind.f32 (z01 x1) (fop BinOp.sub FloatKind.f32 (gF q01 (ixO 0 (subI IntKind.i64 (Int.ofNat q00) 1) 1)) 1065353216)) (fop BinOp.sub FloatKind.f32 (gF q01 (ixO 0 0 1)) (fop BinOp.sub FloatKind.f32 (gF q01 (ixO 0 (subI IntKind.i64 (Int.ofNat q00) 1) 1)) 1065353216))) (fop BinOp.sub FloatKind.f32 (gF q01 (ixO 0 0 1)) (fop BinOp.sub FloatKind.f32 (gF q01 (ixO 0 (subI IntKind.i64 (Int.ofNat q00) 1) 1)) 1065353216)))) (br (eqI 0 0) (br (fcmp BinOp.eql FloatKind.f32 (fop BinOp.sub FloatKind.f32 (fop BinOp.add FloatKind.f32 (gF q01 (ixO 0 0 1)) 1065353216) (gF q01 (ixO 0 (subI IntKind.i64 (Int.ofNat q00) 1) 1))) 0) (k_ (subI IntKind.i64 (Int.ofNat q00) 1) 0 0 (fop BinOp.sub FloatKind.f32 (fop BinOp.add FloatKind.f32 (gF q01 (ixO 0 0 1)) 1065353216) (gF q01 (ixO 0 (subI IntKind.i64 (Int.ofNat q00) 1) 1)))) (k_ (subI IntKind.i64 (Int.ofNat q00) 1) 0 (fop BinOp.quo FloatKind.f32 (fop BinOp.sub FloatKind.f32 (z01 x1) (gF q01 (ixO 0 (subI IntKind.i64 (Int.ofNat q00) 1) 1))) (fop BinOp.sub FloatKind.f32 (fop BinOp.add FloatKind.f32 (gF q01 (ixO 0 0 1)) 1065353216) (gF q01 (ixO 0 (subI IntKind.i64 (Int.ofNat q00) 1) 1)))) (fop BinOp.sub FloatKind.f32 (fop BinOp.add FloatKind.f32 (gF q01 (ixO 0 0 1)) 1065353216) (gF q01 (ixO 0 (subI IntKind.i64 (Int.ofNat q00) 1) 1))))) (br (fcmp BinOp.eql FloatKind.f32 (fop BinOp.sub FloatKind.f32 (gF q01 (ixO 0 0 1)) (gF q01 (ixO 0 (subI IntKind.i64 (Int.ofNat q00) 1) 1))) 0) (k_ (subI IntKind.i64 (Int.ofNat q00) 1) 0 0 (fop BinOp.sub FloatKind.f32 (gF q01 (ixO 0 0 1)) (gF q01 (ixO 0 (subI IntKind.i64 (Int.ofNat q00) 1) 1)))) (k_ (subI IntKind.i64 (Int.ofNat q00) 1) 0 (fop BinOp.quo FloatKind.f32 (fop BinOp.sub FloatKind.f32 (z01 x1) (gF q01 (ixO 0 (subI IntKind.i64 (Int.ofNat q00) 1) 1))) (fop BinOp.sub FloatKind.f32 (gF q01 (ixO 0 0 1)) (gF q01 (ixO 0 (subI IntKind.i64 (Int.ofNat q00) 1) 1)))) (fop BinOp.sub FloatKind.f32 (gF q01 (ixO 0 0 1)) (gF q01 (ixO 0 (subI IntKind.i64 (Int.ofNat q00) 1) 1))))))) (br (eqI 0 0) (br (fcmp BinOp.eql FloatKind.f32 (fop BinOp.sub FloatKind.f32 (fop BinOp.add FloatKind.f32 (gF q01 (ixO 0 0 1)) 1065353216) (gF q01 (ixO 0 (subI IntKind.i64 (Int.ofNat q00) 1) 1))) 0) (k_ (subI IntKind.i64 (Int.ofNat q00) 1) 0 0 (fop BinOp.sub FloatKind.f32 (fop BinOp.add FloatKind.f32 (gF q01 (ixO 0 0 1)) 1065353216) (gF q01 (ixO 0 (subI IntKind.i64 (Int.ofNat q00) 1) 1)))) (k_ (subI IntKind.i64 (Int.ofNat q00) 1) 0 (fop BinOp.quo FloatKind.f32 (fop BinOp.sub FloatKind.f32 (z01 x1) (gF q01 (ixO 0 (subI IntKind.i64 (Int.ofNat q00) 1) 1))) (fop BinOp.sub FloatKind.f32 (fop BinOp.add FloatKind.f32 (gF q01 (ixO 0 0 1)) 1065353216) (gF q01 (ixO 0 (subI IntKind.i64 (Int.ofNat q00) 1) 1)))) (fop BinOp.sub FloatKind.f32 (fop BinOp.add FloatKind.f32 (gF q01 (ixO 0 0 1)) 1065353216) (gF q01 (ixO 0 (subI IntKind.i64 (Int.ofNat q00) 1) 1))))) (br (fcmp BinOp.eql FloatKind.f32 (fop BinOp.sub FloatKind.f32 (gF q01 (ixO 0 0 1)) (gF q01 (ixO 0 (subI IntKind.i64 (Int.ofNat q00) 1) 1))) 0) (k_ (subI IntKind.i64 (Int.ofNat q00) 1) 0 0 (fop BinOp.sub FloatKind.f32 (gF q01 (ixO 0 0 1)) (gF q01 (ixO 0 (subI IntKind.i64 (Int.ofNat q00) 1) 1)))) (k_ (subI IntKind.i64 (Int.ofNat q00) 1) 0 (fop BinOp.quo FloatKind.f32 (fop BinOp.sub FloatKind.f32 (z01 x1) (gF q01 (ixO 0 (subI IntKind.i64 (Int.ofNat q00) 1) 1))) (fop BinOp.sub FloatKind.f32 (gF q01 (ixO 0 0 1)) (gF q01 (ixO 0 (subI IntKind.i64 (Int.ofNat q00) 1) 1)))) (fop BinOp.sub FloatKind.f32 (gF q01 (ixO 0 0 1)) (gF q01 (ixO 0 (subI IntKind.i64 (Int.ofNat q00) 1) 1))))))))) (br (eqI (addI IntKind.i64 (z00 (z01 x1) q01 q00 (subI IntKind.i64 (Int.ofNat q00) 1)) 1) (Int.ofNat q00)) (grd (okIx (z00 (z01 x1) q01 q00 (subI IntKind.i64 (Int.ofNat q00) 1)) q00) (grd (okIx 0 q00) (br (eqI 0 0) (br (fcmp BinOp.lss FloatKind.f32 (z01 x1) (gF q01 (ixO 0 0 1))) (br (fcmp BinOp.eql FloatKind.f32 (fop BinOp.sub FloatKind.f32 (gF q01 (ixO 0 0 1)) (fop BinOp.sub FloatKind.f32 (gF q01 (ixO 0 (z00 (z01 x1) q01 q00 (subI IntKind.i64 (Int.ofNat q00) 1)) 1)) 1065353216)) 0) (k_ (z00 (z01 x1) q01 q00 (subI IntKind.i64 (Int.ofNat q00) 1)) 0 0 (fop BinOp.sub FloatKind.f32 (gF q01 (ixO 0 0 1)) (fop BinOp.sub FloatKind.f32 (gF q01 (ixO 0 (z00 (z01 x1) q01 q00 (subI IntKind.i64 (Int.ofNat q00) 1)) 1)) 1065353216))) (k_ (z00 (z01 x1) q01 q00 (subI IntKind.i64 (Int.ofNat q00) 1)) 0 (fop BinOp.quo FloatKind.f32 (fop BinOp.sub FloatKind.f32 (z01 x1) (fop BinOp.sub FloatKind.f32 (gF q01 (ixO 0 (z00 (z01 x1) q01 q00 (subI IntKind.i64 (Int.ofNat q00) 1)) 1)) 1065353216)) (fop BinOp.sub FloatKind.f32 (gF q01 (ixO 0 0 1)) (fop BinOp.sub FloatKind.f32 (gF q01 (ixO 0 (z00 (z01 x1) q01 q00 (subI IntKind.i64 (Int.ofNat q00) 1)) 1)) 1065353216))) (fop BinOp.sub FloatKind.f32 (gF q01 (ixO 0 0 1)) (fop BinOp.sub FloatKind.f32 (gF q01 (ixO 0 (z00 (z01 x1) q01 q00 (subI IntKind.i64 (Int.ofNat q00) 1)) 1)) 1065353216)))) (br (eqI 0 0) (br (fcmp BinOp.eql FloatKind.f32 (fop BinOp.sub FloatKind.f32 (fop BinOp.add FloatKind.f32 (gF q01 (ixO 0 0 1)) 1065353216) (gF q01 (ixO 0 (z00 (z01 x1) q01 q00 (subI IntKind.i64 (Int.ofNat q00) 1)) 1))) 0) (k_ (z00 (z01 x1) q01 q00 (subI IntKind.i64 (Int.ofNat q00) 1)) 0 0 (fop BinOp.sub FloatKind.f32 (fop BinOp.add FloatKind.f32 (gF q01 (ixO 0 0 1)) 1065353216) (gF q01 (ixO 0 (z00 (z01 x1) q01 q00 (subI IntKind.i64 (Int.ofNat q00) 1)) 1)))) (k_ (z00 (z01 x1) q01 q00 (subI IntKind.i64 (Int.ofNat q00) 1)) 0 (fop BinOp.quo FloatKind.f32 (fop BinOp.sub FloatKind.f32 (z01 x1) (gF q01 (ixO 0 (z00 (z01 x1) q01 q00 (subI IntKind.i64 (Int.ofNat q00) 1)) 1))) (fop BinOp.sub FloatKind.f32 (fop BinOp.add FloatKind.f32 (gF q01 (ixO 0 0 1)) 1065353216) (gF q01 (ixO 0 (z00 (z01 x1) q01 q00 (subI IntKind.i64 (Int.ofNat q00) 1)) 1)))) (fop BinOp.sub FloatKind.f32 (fop BinOp.add FloatKind.f32 (gF q01 (ixO 0 0 1)) 1065353216) (gF q01 (ixO 0 (z00 (z01 x1) q01 q00 (subI IntKind.i64 (Int.ofNat q00) 1)) 1))))) (br (fcmp BinOp.eql FloatKind.f32 (fop BinOp.sub FloatKind.f32 (gF q01 (ixO 0 0 1)) (gF q01 (ixO 0 (z00 (z01 x1) q01 q00 (subI IntKind.i64 (Int.ofNat q00) 1)) 1))) 0) (k_ (z00 (z01 x1) q01 q00 (subI IntKind.i64 (Int.ofNat q00) 1)) 0 0 (fop BinOp.sub FloatKind.f32 (gF q01 (ixO 0 0 1)) (gF q01 (ixO 0 (z00 (z01 x1) q01 q00 (subI IntKind.i64 (Int.ofNat q00) 1)) 1)))) (k_ (z00 (z01 x1) q01 q00 (subI IntKind.i64 (Int.ofNat q00) 1)) 0 (fop BinOp.quo FloatKind.f32 (fop BinOp.sub FloatKind.f32 (z01 x1) (gF q01 (ixO 0 (z00 (z01 x1) q01 q00 (subI IntKind.i64 (Int.ofNat q00) 1)) 1))) (fop BinOp.sub FloatKind.f32 (gF q01 (ixO 0 0 1)) (gF q01 (ixO 0 (z00 (z01 x1) q01 q00 (subI IntKind.i64 (Int.ofNat q00) 1)) 1)))) (fop BinOp.sub FloatKind.f32 (gF q01 (ixO 0 0 1)) (gF q01 (ixO 0 (z00 (z01 x1) q01 q00 (subI IntKind.i64 (Int.ofNat q00) 1)) 1))))))) (br (eqI 0 0) (br (fcmp BinOp.eql FloatKind.f32 (fop BinOp.sub FloatKind.f32 (fop BinOp.add FloatKind.f32 (gF q01 (ixO 0 0 1)) 1065353216) (gF q01 (ixO 0 (z00 (z01 x1) q01 q00 (subI IntKind.i64 (Int.ofNat q00) 1)) 1))) 0) (k_ (z00 (z01 x1) q01 q00 (subI IntKind.i64 (Int.ofNat q00) 1)) 0 0 (fop BinOp.sub FloatKind.f32 (fop BinOp.add FloatKind.f32 (gF q01 (ixO 0 0 1)) 1065353216) (gF q01 (ixO 0 (z00 (z01 x1) q01 q00 (subI IntKind.i64 (Int.ofNat q00) 1)) 1)))) (k_ (z00 (z01 x1) q01 q00 (subI IntKind.i64 (Int.ofNat q00) 1)) 0 (fop BinOp.quo FloatKind.f32 (fop BinOp.sub FloatKind.f32 (z01 x1) (gF q01 (ixO 0 (z00 (z01 x1) q01 q00 (subI IntKind.i64 (Int.ofNat q00) 1)) 1))) (fop BinOp.sub FloatKind.f32 (fop BinOp.add FloatKind.f32 (gF q01 (ixO 0 0 1)) 1065353216) (gF q01 (ixO 0 (z00 (z01 x1) q01 q00 (subI IntKind.i64 (Int.ofNat q00) 1)) 1)))) (fop BinOp.sub FloatKind.f32 (fop BinOp.add FloatKind.f32 (gF q01 (ixO 0 0 1)) 1065353216) (gF q01 (ixO 0 (z00 (z01 x1) q01 q00 (subI IntKind.i64 (Int.ofNat q00) 1)) 1))))) (br (fcmp BinOp.eql FloatKind.f32 (fop BinOp.sub FloatKind.f32 (gF q01 (ixO 0 0 1)) (gF q01 (ixO 0 (z00 (z01 x1) q01 q00 (subI IntKind.i64 (Int.ofNat q00) 1)) 1))) 0) (k_ (z00 (z01 x1) q01 q00 (subI IntKind.i64 (Int.ofNat q00) 1)) 0 0 (fop BinOp.sub FloatKind.f32 (gF q01 (ixO 0 0 1)) (gF q01 (ixO 0 (z00 (z01 x1) q01 q00 (subI IntKind.i64 (Int.ofNat q00) 1)) 1)))) (k_ (z00 (z01 x1) q01 q00 (subI IntKind.i64 (Int.ofNat q00) 1)) 0 (fop BinOp.quo FloatKind.f32 (fop BinOp.sub FloatKind.f32 (z01 x1) (gF q01 (ixO 0 (z00 (z01 x1) q01 q00 (subI IntKind.i64 (Int.ofNat q00) 1)) 1))) (fop BinOp.sub FloatKind.f32 (gF q01 (ixO 0 0 1)) (gF q01 (ixO 0 (z00 (z01 x1) q01 q00 (subI IntKind.i64 (Int.ofNat q00) 1)) 1)))) (fop BinOp.sub FloatKind.f32 (gF q01 (ixO 0 0 1)) (gF q01 (ixO 0 (z00 (z01 x1) q01 q00 (subI IntKind.i64 (Int.ofNat q00) 1)) 1))))))))) (grd (okIx (z00 (z01 x1) q01 q00 (subI IntKind.i64 (Int.ofNat q00) 1)) q00) (grd (okIx (addI IntKind.i64 (z00 (z01 x1) q01 q00 (subI IntKind.i64 (Int.ofNat q00) 1)) 1) q00) (br (eqI (addI IntKind.i64 (z00 (z01 x1) q01 q00 (subI IntKind.i64 (Int.ofNat q00) 1)) 1) 0) (br (fcmp BinOp.lss FloatKind.f32 (z01 x1) (gF q01 (ixO 0 (addI IntKind.i64 (z00 (z01 x1) q01 q00 (subI IntKind.i64 (Int.ofNat q00) 1)) 1) 1))) (br (fcmp BinOp.eql FloatKind.f32 (fop BinOp.sub FloatKind.f32 (gF q01 (ixO 0 (addI IntKind.i64 (z00 (z01 x1) q01 q00 (subI IntKind.i64 (Int.ofNat q00) 1)) 1) 1)) (fop BinOp.sub FloatKind.f32 (gF q01 (ixO 0 (z00 (z01 x1) q01 q00 (subI IntKind.i64 (Int.ofNat q00) 1)) 1)) 1065353216)) 0) (k_ (z00 (z01 x1) q01 q00 (subI IntKind.i64 (Int.ofNat q00) 1)) (addI IntKind.i64 (z00 (z01 x1) q01 q00 (subI IntKind.i64 (Int.ofNat q00) 1)) 1) 0 (fop BinOp.sub FloatKind.f32 (gF q01 (ixO 0 (addI IntKind.i64 (z00 (z01 x1) q01 q00 (subI IntKind.i64 (Int.ofNat q00) 1)) 1) 1)) (fop BinOp.sub FloatKind.f32 (gF q01 (ixO 0 (z00 (z01 x1) q01 q00 (subI IntKind.i64 (Int.ofNat q00) 1)) 1)) 1065353216))) (k_ (z00 (z01 x1) q01 q00 (subI IntKind.i64 (Int.ofNat q00) 1)) (addI IntKind.i64 (z00 (z01 x1) q01 q00 (subI IntKind.i64 (Int.ofNat q00) 1)) 1) (fop BinOp.quo FloatKind.f32 (fop BinOp.sub FloatKind.f32 (z01 x1) (fop BinOp.sub FloatKind.f32 (gF q01 (ixO 0 (z00 (z01 x1) q01 q00 (subI IntKind.i64 (Int.ofNat q00) 1)) 1)) 1065353216)) (fop BinOp.sub FloatKind.f32 (gF q01 (ixO 0 (addI IntKind.i64 (z00 (z01 x1) q01 q00 (subI IntKind.i64 (Int.ofNat q00) 1)) 1) 1)) (fop BinOp.sub FloatKind.f32 (gF q01 (ixO 0 (z00 (z01 x1) q01 q00 (subI IntKind.i64 (Int.ofNat q00) 1)) 1)) 1065353216))) (fop BinOp.sub FloatKind.f32 (gF q01 (ixO 0 (addI IntKind.i64 (z00 (z01 x1) q01 q00 (subI IntKind.i64 (Int.ofNat q00) 1)) 1) 1)) (fop BinOp.sub FloatKind.f32 (gF q01 (ixO 0 (z00 (z01 x1) q01 q00 (subI IntKind.i64 (Int.ofNat q00) 1)) 1)) 1065353216)))) (br (eqI (addI IntKind.i64 (z00 (z01 x1) q01 q00 (subI IntKind.i64 (Int.ofNat q00) 1)) 1) 0) (br (fcmp BinOp.eql FloatKind.f32 (fop BinOp.sub FloatKind.f32 (fop BinOp.add FloatKind.f32 (gF q01 (ixO 0 (addI IntKind.i64 (z00 (z01 x1) q01 q00 (subI IntKind.i64 (Int.ofNat q00) 1)) 1) 1)) 1065353216) (gF q01 (ixO 0 (z00 (z01 x1) q01 q00 (subI IntKind.i64 (Int.ofNat q00) 1)) 1))) 0) (k_ (z00 (z01 x1) q01 q00 (subI IntKind.i64 (Int.ofNat q00) 1)) (addI IntKind.i64 (z00 (z01 x1) q01 q00 (subI IntKind.i64 (Int.ofNat q00) 1)) 1) 0 (fop BinOp.sub FloatKind.f32 (fop BinOp.add FloatKind.f32 (gF q01 (ixO 0 (addI IntKind.i64 (z00 (z01 x1) q01 q00 (subI IntKind.i64 (Int.ofNat q00) 1)) 1) 1)) 1065353216) (gF q01 (ixO 0 (z00 (z01 x1) q01 q00 (subI IntKind.i64 (Int.ofNat q00) 1)) 1)))) (k_ (z00 (z01 x1) q01 q00 (subI IntKind.i64 (Int.ofNat q00) 1)) (addI IntKind.i64 (z00 (z01 x1) q01 q00 (subI IntKind.i64 (Int.ofNat q00) 1)) 1) (fop BinOp.quo FloatKind.f32 (fop BinOp.sub FloatKind.f32 (z01 x1) (gF q01 (ixO 0 (z00 (z01 x1) q01 q00 (subI IntKind.i64 (Int.ofNat q00) 1)) 1))) (fop BinOp.sub FloatKind.f32 (fop BinOp.add FloatKind.f32 (gF q01 (ixO 0 (addI IntKind.i64 (z00 (z01 x1) q01 q00 (subI IntKind.i64 (Int.ofNat q00) 1)) 1) 1)) 1065353216) (gF q01 (ixO 0 (z00 (z01 x1) q01 q00 (subI IntKind.i64 (Int.ofNat q00) 1)) 1)))) (fop BinOp.sub FloatKind.f32 (fop BinOp.add FloatKind.f32 (gF q01 (ixO 0 (addI IntKind.i64 (z00 (z01 x1) q01 q00 (subI IntKind.i64 (Int.ofNat q00) 1)) 1) 1)) 1065353216) (gF q01 (ixO 0 (z00 (z01 x1) q01 q00 (subI IntKind.i64 (Int.ofNat q00) 1)) 1))))) (br (fcmp BinOp.eql FloatKind.f32 (fop BinOp.sub FloatKind.f32 (gF q01 (ixO 0 (addI IntKind.i64 (z00 (z01 x1) q01 q00 (subI IntKind.i64 (Int.ofNat q00) 1)) 1) 1)) (gF q01 (ixO 0 (z00 (z01 x1) q01 q00 (subI IntKind.i64 (Int.ofNat q00) 1)) 1))) 0) (k_ (z00 (z01 x1) q01 q00 (subI IntKind.i64 (Int.ofNat q00) 1)) (addI IntKind.i64 (z00 (z01 x1) q01 q00 (subI IntKind.i64 (Int.ofNat q00) 1)) 1) 0 (fop BinOp.sub FloatKind.f32 (gF q01 (ixO 0 (addI IntKind.i64 (z00 (z01 x1) q01 q00 (subI IntKind.i64 (Int.ofNat q00) 1)) 1) 1)) (gF q01 (ixO 0 (z00 (z01 x1) q01 q00 (subI IntKind.i64 (Int.ofNat q00) 1)) 1)))) (k_ (z00 (z01 x1) q01 q00 (subI IntKind.i64 (Int.ofNat q00) 1)) (addI IntKind.i64 (z00 (z01 x1) q01 q00 (subI IntKind.i64 (Int.ofNat q00) 1)) 1) (fop BinOp.quo FloatKind.f32 (fop BinOp.sub FloatKind.f32 (z01 x1) (gF q01 (ixO 0 (z00 (z01 x1) q01 q00 (subI IntKind.i64 (Int.ofNat q00) 1)) 1))) (fop BinOp.sub FloatKind.f32 (gF q01 (ixO 0 (addI IntKind.i64 (z00 (z01 x1) q01 q00 (subI IntKind.i64 (Int.ofNat q00) 1)) 1) 1)) (gF q01 (ixO 0 (z00 (z01 x1) q01 q00 (subI IntKind.i64 (Int.ofNat q00) 1)) 1)))) (fop BinOp.sub FloatKind.f32 (gF q01 (ixO 0 (addI IntKind.i64 (z00 (z01 x1) q01 q00 (subI IntKind.i64 (Int.ofNat q00) 1)) 1) 1)) (gF q01 (ixO 0 (z00 (z01 x1) q01 q00 (subI IntKind.i64 (Int.ofNat q00) 1)) 1))))))) (br (eqI (addI IntKind.i64 (z00 (z01 x1) q01 q00 (subI IntKind.i64 (Int.ofNat q00) 1)) 1) 0) (br (fcmp BinOp.eql FloatKind.f32 (fop BinOp.sub FloatKind.f32 (fop BinOp.add FloatKind.f32 (gF q01 (ixO 0 (addI IntKind.i64 (z00 (z01 x1) q01 q00 (subI IntKind.i64 (Int.ofNat q00) 1)) 1) 1)) 1065353216) (gF q01 (ixO 0 (z00 (z01 x1) q01 q00 (subI IntKind.i64 (Int.ofNat q00) 1)) 1))) 0) (k_ (z00 (z01 x1) q01 q00 (subI IntKind.i64 (Int.ofNat q00) 1)) (addI IntKind.i64 (z00 (z01 x1) q01 q00 (subI IntKind.i64 (Int.ofNat q00) 1)) 1) 0 (fop BinOp.sub FloatKind.f32 (fop BinOp.add FloatKind.f32 (gF q01 (ixO 0 (addI IntKind.i64 (z00 (z01 x1) q01 q00 (subI IntKind.i64 (Int.ofNat q00) 1)) 1) 1)) 1065353216) (gF q01 (ixO 0 (z00 (z01 x1) q01 q00 (subI IntKind.i64 (Int.ofNat q00) 1)) 1)))) (k_ (z00 (z01 x1) q01 q00 (subI IntKind.i64 (Int.ofNat q00) 1)) (addI IntKind.i64 (z00 (z01 x1) q01 q00 (subI IntKind.i64 (Int.ofNat q00) 1)) 1) (fop BinOp.quo FloatKind.f32 (fop BinOp.sub FloatKind.f32 (z01 x1) (gF q01 (ixO 0 (z00 (z01 x1) q01 q00 (subI IntKind.i64 (Int.ofNat q00) 1)) 1))) (fop BinOp.sub FloatKind.f32 (fop BinOp.add FloatKind.f32 (gF q01 (ixO 0 (addI IntKind.i64 (z00 (z01 x1) q01 q00 (subI IntKind.i64 (Int.ofNat q00) 1)) 1) 1)) 1065353216) (gF q01 (ixO 0 (z00 (z01 x1) q01 q00 (subI IntKind.i64 (Int.ofNat q00) 1)) 1)))) (fop BinOp.sub FloatKind.f32 (fop BinOp.add FloatKind.f32 (gF q01 (ixO 0 (addI IntKind.i64 (z00 (z01 x1) q01 q00 (subI IntKind.i64 (Int.ofNat q00) 1)) 1) 1)) 1065353216) (gF q01 (ixO 0 (z00 (z01 x1) q01 q00 (subI IntKind.i64 (Int.ofNat q00) 1)) 1))))) (br (fcmp BinOp.eql FloatKind.f32 (fop BinOp.sub FloatKind.f32 (gF q01 (ixO 0 (addI IntKind.i64 (z00 (z01 x1) q01 q00 (subI IntKind.i64 (Int.ofNat q00) 1)) 1) 1)) (gF q01 (ixO 0 (z00 (z01 x1) q01 q00 (subI IntKind.i64 (Int.ofNat q00) 1)) 1))) 0) (k_ (z00 (z01 x1) q01 q00 (subI IntKind.i64 (Int.ofNat q00) 1)) (addI IntKind.i64 (z00 (z01 x1) q01 q00 (subI IntKind.i64 (Int.ofNat q00) 1)) 1) 0 (fop BinOp.sub FloatKind.f32 (gF q01 (ixO 0 (addI IntKind.i64 (z00 (z01 x1) q01 q00 (subI IntKind.i64 (Int.ofNat q00) 1)) 1) 1)) (gF q01 (ixO 0 (z00 (z01 x1) q01 q00 (subI IntKind.i64 (Int.ofNat q00) 1)) 1)))) (k_ (z00 (z01 x1) q01 q00 (subI IntKind.i64 (Int.ofNat q00) 1)) (addI IntKind.i64 (z00 (z01 x1) q01 q00 (subI IntKind.i64 (Int.ofNat q00) 1)) 1) (fop BinOp.quo FloatKind.f32 (fop BinOp.sub FloatKind.f32 (z01 x1) (gF q01 (ixO 0 (z00 (z01 x1) q01 q00 (subI IntKind.i64 (Int.ofNat q00) 1)) 1))) (fop BinOp.sub FloatKind.f32 (gF q01 (ixO 0 (addI IntKind.i64 (z00 (z01 x1) q01 q00 (subI IntKind.i64 (Int.ofNat q00) 1)) 1) 1)) (gF q01 (ixO 0 (z00 (z01 x1) q01 q00 (subI IntKind.i64 (Int.ofNat q00) 1)) 1)))) (fop BinOp.sub FloatKind.f32 (gF q01 (ixO 0 (addI IntKind.i64 (z00 (z01 x1) q01 q00 (subI IntKind.i64 (Int.ofNat q00) 1)) 1) 1)) (gF q01 (ixO 0 (z00 (z01 x1) q01 q00 (subI IntKind.i64 (Int.ofNat q00) 1)) 1)))))))))))))
noncomputable def z4u (q00 : Nat) (q01 : List Nat) (q09 : Nat) (q0c : List Nat) (q08 : Nat) (q0d : List Nat) (x1 : Nat) : Option (Int × Int × Nat × Nat) := z6r q00 q01 q09 q0c q08 q0d x1 (fun c0_ c1_ c2_ c3_ => some (c0_, c1_, c2_, c3_))
theorem zdk {R R' : Type} (o : Option R → Option R') (h0 : o none = none) (q00 : Nat) (q01 : List Nat) (q09 : Nat) (q0c : List Nat) (q08 : Nat) (q0d : List Nat) (x1 : Nat) (k_ : Int → Int → Nat → Nat → Option R) : z6r q00 q01 q09 q0c q08 q0d x1 (fun c0_ c1_ c2_ c3_ => o (k_ c0_ c1_ c2_ c3_)) = o (z6r q00 q01 q09 q0c q08 q0d x1 k_) := by
  unfold z6r
  repeat (first | refine grd_out h0 ?_ | refine br_out ?_ ?_ | rfl | exact h0.symm)
noncomputable def zad (q00 : Nat) (q01 : List Nat) (q09 : Nat) (q0c : List Nat) (q08 : Nat) (q0d : List Nat) (x1 : Nat) : Bool := (z4u q00 q01 q09 q0c q08 q0d x1).isSome
noncomputable def z5u (q00 : Nat) (q01 : List Nat) (q09 : Nat) (q0c : List Nat) (q08 : Nat) (q0d : List Nat) (x1 : Nat) : Int := ((z4u q00 q01 q09 q0c q08 q0d x1).getD default).1
noncomputable def z8f (q00 : Nat) (q01 : List Nat) (q09 : Nat) (q0c : List Nat) (q08 : Nat) (q0d : List Nat) (x1 : Nat) : Int := ((z4u q00 q01 q09 q0c q08 q0d x1).getD default).2.1
noncomputable def za2 (q00 : Nat) (q01 : List Nat) (q09 : Nat) (q0c : List Nat) (q08 : Nat) (q0d : List Nat) (x1 : Nat) : Nat := ((z4u q00 q01 q09 q0c q08 q0d x1).getD default).2.2.1
noncomputable def zat (q00 : Nat) (q01 : List Nat) (q09 : Nat) (q0c : List Nat) (q08 : Nat) (q0d : List Nat) (x1 : Nat) : Nat := ((z4u q00 q01 q09 q0c q08 q0d x1).getD default).2.2.2
theorem zew {q00 : Nat} {q01 : List Nat} {q09 : Nat} {q0c : List Nat} {q08 : Nat} {q0d : List Nat} {x1 : Nat} {r : Int × Int × Nat × Nat} (h : z4u q00 q01 q09 q0c q08 q0d x1 = some r) : zad q00 q01 q09 q0c q08 q0d x1 = true ∧ z5u q00 q01 q09 q0c q08 q0d x1 = r.1 ∧ z8f q00 q01 q09 q0c q08 q0d x1 = r.2.1 ∧ za2 q00 q01 q09 q0c q08 q0d x1 = r.2.2.1 ∧ zat q00 q01 q09 q0c q08 q0d x1 = r.2.2.2 := by
  unfold zad z5u z8f za2 zat
  rw [h]
  exact ⟨rfl, rfl, rfl, rfl, rfl⟩
noncomputable def z4o {R : Type} (q00 : Nat) (q01 : List Nat) (q09 : Nat) (q0c : List Nat) (q08 : Nat) (q0d : List Nat) (x1 : Nat) (k_ : Int → Int → Nat → Nat → Nat → Option R) : Option R := (grd (z9s x1) (grd (z38 q00 (Int.ofNat q00) q01 (z35 x1) 0) (br (z37 q00 (Int.ofNat q00) q01 (z35 x1) 0) (br (eqI (z1t q00 (Int.ofNat q00) q01 (z35 x1) 0) 0) (grd (okIx (subI IntKind.i64 (Int.ofNat q00) 1) q00) (grd (okIx 0 q00) (k_ (subI IntKind.i64 (Int.ofNat q00) 1) 0 (fop BinOp.sub FloatKind.f32 (gF q01 (ixO 0 (subI IntKind.i64 (Int.ofNat q00) 1) 1)) 1065353216) (gF q01 (ixO 0 0 1)) (z35 x1)))) (br (ltI (z1t q00 (Int.ofNat q00) q01 (z35 x1) 0) 0) (grd (okIx (subI IntKind.i64 (Int.ofNat q00) 1) q00) (grd (okIx 0 q00) (k_ (subI IntKind.i64 (Int.ofNat q00) 1) 0 (gF q01 (ixO 0 (subI IntKind.i64 (Int.ofNat q00) 1) 1)) (fop BinOp.add FloatKind.f32 (gF q01 (ixO 0 0 1)) 1065353216) (z35 x1)))) (grd (okIx (subI IntKind.i64 (z1t q00 (Int.ofNat q00) q01 (z35 x1) 0) 1) q00) (grd (okIx (z1t q00 (Int.ofNat q00) q01 (z35 x1) 0) q00) (k_ (subI IntKind.i64 (z1t q00 (Int.ofNat q00) q01 (z35 x1) 0) 1) (z1t q00 (Int.ofNat q00) q01 (z35 x1) 0) (gF q01 (ixO 0 (subI IntKind.i64 (z1t q00 (Int.ofNat q00) q01 (z35 x1) 0) 1) 1)) (gF q01 (ixO 0 (z1t q00 (Int.ofNat q00) q01 (z35 x1) 0) 1)) (z35 x1)))))) (br (eqI (Int.negSucc 0) 0) (grd (okIx (subI IntKind.i64 (Int.ofNat q00) 1) q00) (grd (okIx 0 q00) (k_ (subI IntKind.i64 (Int.ofNat q00) 1) 0 (fop BinOp.sub FloatKind.f32 (gF q01 (ixO 0 (subI IntKind.i64 (Int.ofNat q00) 1) 1)) 1065353216) (gF q01 (ixO 0 0 1)) (z35 x1)))) (br (ltI (Int.negSucc 0) 0) (grd (okIx (subI IntKind.i64 (Int.ofNat q00) 1) q00) (grd (okIx 0 q00) (k_ (subI IntKind.i64 (Int.ofNat q00) 1) 0 (gF q01 (ixO 0 (subI IntKind.i64 (Int.ofNat q00) 1) 1)) (fop BinOp.add FloatKind.f32 (gF q01 (ixO 0 0 1)) 1065353216) (z35 x1)))) (grd (okIx (subI IntKind.i64 (Int.negSucc 0) 1) q00) (grd (okIx (Int.negSucc 0) q00) (k_ (subI IntKind.i64 (Int.negSucc 0) 1) (Int.negSucc 0) (gF q01 (ixO 0 (subI IntKind.i64 (Int.negSucc 0) 1) 1)) (gF q01 (ixO 0 (Int.negSucc 0) 1)) (z35 x1)))))))))
noncomputable def z3r (q00 : Nat) (q01 : List Nat) (q09 : Nat) (q0c : List Nat) (q08 : Nat) (q0d : List Nat) (x1 : Nat) : Option (Int × Int × Nat × Nat × Nat) := z4o q00 q01 q09 q0c q08 q0d x1 (fun c0_ c1_ c2_ c3_ c4_ => some (c0_, c1_, c2_, c3_, c4_))
theorem zb3 {R R' : Type} (o : Option R → Option R') (h0 : o none = none) (q00 : Nat) (q01 : List Nat) (q09 : Nat) (q0c : List Nat) (q08 : Nat) (q0d : List Nat) (x1 : Nat) (k_ : Int → Int → Nat → Nat → Nat → Option R) : z4o q00 q01 q09 q0c q08 q0d x1 (fun c0_ c1_ c2_ c3_ c4_ => o (k_ c0_ c1_ c2_ c3_ c4_)) = o (z4o q00 q01 q09 q0c q08 q0d x1 k_) := by
  unfold z4o
  repeat (first | refine grd_out h0 ?_ | refine br_out ?_ ?_ | rfl | exact h0.symm)
noncomputable def z6s (q00 : Nat) (q01 : List Nat) (q09 : Nat) (q0c : List Nat) (q08 : Nat) (q0d : List Nat) (x1 : Nat) : Bool := (z3r q00 q01 q09 q0c q08 q0d x1).isSome
noncomputable def z3w (q00 : Nat) (q01 : List Nat) (q09 : Nat) (q0c : List Nat) (q08 : Nat) (q0d : List Nat) (x1 : Nat) : Int := ((z3r q00 q01 q09 q0c q08 q0d x1).getD default).1
noncomputable def z3x (q00 : Nat) (q01 : List Nat) (q09 : Nat) (q0c : List Nat) (q08 : Nat) (q0d : List Nat) (x1 : Nat) : Int := ((z3r q00 q01 q09 q0c q08 q0d x1).getD default).2.1
noncomputable def z46 (q00 : Nat) (q01 : List Nat) (q09 : Nat) (q0c : List Nat) (q08 : Nat) (q0d : List Nat) (x1 : Nat) : Nat := ((z3r q00 q01 q09 q0c q08 q0d x1).getD default).2.2.1
noncomputable def z4r (q00 : Nat) (q01 : List Nat) (q09 : Nat) (q0c : List Nat) (q08 : Nat) (q0d : List Nat) (x1 : Nat) : Nat := ((z3r q00 q01 q09 q0c q08 q0d x1).getD default).2.2.2.1
noncomputable def z54 (q00 : Nat) (q01 : List Nat) (q09 : Nat) (q0c : List Nat) (q08 : Nat) (q0d : List Nat) (x1 : Nat) : Nat := ((z3r q00 q01 q09 q0c q08 q0d x1).getD default).2.2.2.2
theorem zbv {q00 : Nat} {q01 : List Nat} {q09 : Nat} {q0c : List Nat} {q08 : Nat} {q0d : List Nat} {x1 : Nat} {r : Int × Int × Nat × Nat × Nat} (h : z3r q00 q01 q09 q0c q08 q0d x1 = some r) : z6s q00 q01 q09 q0c q08 q0d x1 = true ∧ z3w q00 q01 q09 q0c q08 q0d x1 = r.1 ∧ z3x q00 q01 q09 q0c q08 q0d x1 = r.2.1 ∧ z46 q00 q01 q09 q0c q08 q0d x1 = r.2.2.1 ∧ z4r q00 q01 q09 q0c q08 q0d x1 = r.2.2.2.1 ∧ z54 q00 q01 q09 q0c q08 q0d x1 = r.2.2.2.2 := by
  unfold z6s z3w z3x z46 z4r z54
  rw [h]
  exact ⟨rfl, rfl, rfl, rfl, rfl, rfl⟩
noncomputable def z40 {R : Type} (q11 : Nat) (t43 : Int) (b0 : List Nat) (q0m : Nat) (t44 : Int) (kn_ : Int → Option R) (k0_ : Unit → Option R) (k1_ : Int → Bool → Option R) : Option R := (br (ltI t44 t43) (grd (okIx t44 q11) (grd (za1 (gF b0 (ixO 0 t44 1)) 3204448256 1056964608) (br (bnot (z9p (gF b0 (ixO 0 t44 1)) 3204448256 1056964608)) (k0_ ()) (br (ltI 0 t44) (grd (okIx (subI IntKind.i64 t44 1) q0m) (br (fcmp BinOp.geq FloatKind.f32 (gF b0 (ixO 0 (subI IntKind.i64 t44 1) 1)) (gF b0 (ixO 0 t44 1))) (k0_ ()) (kn_ (addI IntKind.i64 t44 1)))) (kn_ (addI IntKind.i64 t44 1)))))) (k1_ t44 (ltI t44 t43)))
theorem zb2 {R R' : Type} (o : Option R → Option R') (h0 : o none = none) (q11 : Nat) (t43 : Int) (b0 : List Nat) (q0m : Nat) (t44 : Int) (kn_ : Int → Option R) (k0_ : Unit → Option R) (k1_ : Int → Bool → Option R) : z40 q11 t43 b0 q0m t44 (fun t44' => o (kn_ t44')) (fun _ => o (k0_ ())) (fun c0_ c1_ => o (k1_ c0_ c1_)) = o (z40 q11 t43 b0 q0m t44 kn_ k0_ k1_) := by
  unfold z40
  repeat (first | refine grd_out h0 ?_ | refine br_out ?_ ?_ | rfl | exact h0.symm)
noncomputable def z39 (q11 : Nat) (t43 : Int) (b0 : List Nat) (q0m : Nat) : Nat → Int → Option ((Unit) ⊕ (Int × Bool))
  | 0, _ => none
  | n + 1, t44 => z40 q11 t43 b0 q0m  t44  (fun t44' => z39 q11 t43 b0 q0m n t44') (fun _ => some (Sum.inl ())) (fun c0_ c1_ => some (Sum.inr (c0_, c1_)))
theorem z9j (q11 : Nat) (t43 : Int) (b0 : List Nat) (q0m : Nat) (n : Nat) (t44 : Int) : z39 q11 t43 b0 q0m (n + 1) t44 = z40 q11 t43 b0 q0m  t44  (fun t44' => z39 q11 t43 b0 q0m n t44') (fun _ => some (Sum.inl ())) (fun c0_ c1_ => some (Sum.inr (c0_, c1_))) := rfl
noncomputable def z4m (q11 : Nat) (t43 : Int) (b0 : List Nat) (q0m : Nat) (t44 : Int) : Bool := (z39 q11 t43 b0 q0m big t44).isSome
noncomputable def z4j (q11 : Nat) (t43 : Int) (b0 : List Nat) (q0m : Nat) (t44 : Int) : Bool := oL (z39 q11 t43 b0 q0m big t44)
noncomputable def z7c (q11 : Nat) (t43 : Int) (b0 : List Nat) (q0m : Nat) (t44 : Int) : Int := ((tR (z39 q11 t43 b0 q0m big t44)).getD default).1
noncomputable def z7e (q11 : Nat) (t43 : Int) (b0 : List Nat) (q0m : Nat) (t44 : Int) : Bool := ((tR (z39 q11 t43 b0 q0m big t44)).getD default).2
theorem zbc {q11 : Nat} {t43 : Int} {b0 : List Nat} {q0m : Nat} {t44 : Int} {m : Nat} {r : Unit} (hm : m = big) (h : z39 q11 t43 b0 q0m m t44 = some (Sum.inl r)) : z4m q11 t43 b0 q0m t44 = true ∧ z4j q11 t43 b0 q0m t44 = true := by
  subst hm
  unfold z4m z4j
  rw [h]
  exact ⟨rfl, rfl⟩
theorem zbd {q11 : Nat} {t43 : Int} {b0 : List Nat} {q0m : Nat} {t44 : Int} {m : Nat} {r : Int × Bool} (hm : m = big) (h : z39 q11 t43 b0 q0m m t44 = some (Sum.inr r)) : z4m q11 t43 b0 q0m t44 = true ∧ z4j q11 t43 b0 q0m t44 = false ∧ z7c q11 t43 b0 q0m t44 = r.1 ∧ z7e q11 t43 b0 q0m t44 = r.2 := by
  subst hm
  unfold z4m z4j z7c z7e
  rw [h]
  exact ⟨rfl, rfl, rfl, rfl⟩
noncomputable def z5a {R : Type} (q00 : Nat) (q01 : List Nat) (q09 : Nat) (q0c : List Nat) (q08 : Nat) (q0d : List Nat) (k_ : Bool → Option R) : Option R := (br (ltI (Int.ofNat q00) 2) (k_ Bool.false) (br (ltI 24 (Int.ofNat q00)) (k_ Bool.false) (br (neI (Int.ofNat q09) (Int.ofNat q00)) (k_ Bool.false) (br (neI (Int.ofNat q08) (Int.ofNat q00)) (k_ Bool.false) (grd (z9n q09 (pF q0c 0 (muN q09 1))) (br (bnot (z91 q09 (pF q0c 0 (muN q09 1)))) (k_ Bool.false) (grd (z9x q08 (pF q0d 0 (muN q08 1))) (br (bnot (z9l q08 (pF q0d 0 (muN q08 1)))) (k_ Bool.false) (grd (z4m q00 (Int.ofNat q00) q01 q00 0) (br (z4j q00 (Int.ofNat q00) q01 q00 0) (k_ Bool.false) (k_ Bool.true)))))))))))
noncomputable def z59 (q00 : Nat) (q01 : List Nat) (q09 : Nat) (q0c : List Nat) (q08 : Nat) (q0d : List Nat) : Option (Bool) := z5a q00 q01 q09 q0c q08 q0d (fun c0_ => some c0_)
theorem zbt {R R' : Type} (o : Option R → Option R') (h0 : o none = none) (q00 : Nat) (q01 : List Nat) (q09 : Nat) (q0c : List Nat) (q08 : Nat) (q0d : List Nat) (k_ : Bool → Option R) : z5a q00 q01 q09 q0c q08 q0d (fun c0_ => o (k_ c0_)) = o (z5a q00 q01 q09 q0c q08 q0d k_) := by
  unfold z5a
  repeat (first | refine grd_out h0 ?_ | refine br_out ?_ ?_ | rfl | exact h0.symm)
noncomputable def z7y (q00 : Nat) (q01 : List Nat) (q09 : Nat) (q0c : List Nat) (q08 : Nat) (q0d : List Nat) : Bool := (z59 q00 q01 q09 q0c q08 q0d).isSome
noncomputable def z7g (q00 : Nat) (q01 : List Nat) (q09 : Nat) (q0c : List Nat) (q08 : Nat) (q0d : List Nat) : Bool := ((z59 q00 q01 q09 q0c q08 q0d).getD default)
theorem zcz {q00 : Nat} {q01 : List Nat} {q09 : Nat} {q0c : List Nat} {q08 : Nat} {q0d : List Nat} {r : Bool} (h : z59 q00 q01 q09 q0c q08 q0d = some r) : z7y q00 q01 q09 q0c q08 q0d = true ∧ z7g q00 q01 q09 q0c q08 q0d = r := by
  unfold z7y z7g
  rw [h]
  exact ⟨rfl, rfl⟩
noncomputable def z63 {R : Type} (q02 : Nat) (q0a : List Nat) (q03 : Nat) (q0b : List Nat) (q04 : Nat) (q0e : List Nat) (q0q : Nat) (q0u : List Nat) (q0f : Nat) (k_ : Nat → Option R) : Option R := (grd (z6s q02 (pF q0a 0 (muN q02 1)) q03 (pF q0b 0 (muN q03 1)) q04 (pF q0e 0 (muN q04 1)) q0f) (br (fcmp BinOp.neq FloatKind.f32 (z46 q02 (pF q0a 0 (muN q02 1)) q03 (pF q0b 0 (muN q03 1)) q04 (pF q0e 0 (muN q04 1)) q0f) (z4r q02 (pF q0a 0 (muN q02 1)) q03 (pF q0b 0 (muN q03 1)) q04 (pF q0e 0 (muN q04 1)) q0f)) (grd (okIx (z3w q02 (pF q0a 0 (muN q02 1)) q03 (pF q0b 0 (muN q03 1)) q04 (pF q0e 0 (muN q04 1)) q0f) q0q) (grd (okIx (z3x q02 (pF q0a 0 (muN q02 1)) q03 (pF q0b 0 (muN q03 1)) q04 (pF q0e 0 (muN q04 1)) q0f) q0q) (grd (za3 (gF q0u (ixO 0 (z3w q02 (pF q0a 0 (muN q02 1)) q03 (pF q0b 0 (muN q03 1)) q04 (pF q0e 0 (muN q04 1)) q0f) 1)) (gF q0u (ixO 0 (z3x q02 (pF q0a 0 (muN q02 1)) q03 (pF q0b 0 (muN q03 1)) q04 (pF q0e 0 (muN q04 1)) q0f) 1)) (fop BinOp.quo FloatKind.f32 (fop BinOp.sub FloatKind.f32 (z54 q02 (pF q0a 0 (muN q02 1)) q03 (pF q0b 0 (muN q03 1)) q04 (pF q0e 0 (muN q04 1)) q0f) (z46 q02 (pF q0a 0 (muN q02 1)) q03 (pF q0b 0 (muN q03 1)) q04 (pF q0e 0 (muN q04 1)) q0f)) (fop BinOp.sub FloatKind.f32 (z4r q02 (pF q0a 0 (muN q02 1)) q03 (pF q0b 0 (muN q03 1)) q04 (pF q0e 0 (muN q04 1)) q0f) (z46 q02 (pF q0a 0 (muN q02 1)) q03 (pF q0b 0 (muN q03 1)) q04 (pF q0e 0 (muN q04 1)) q0f)))) (k_ (z9t (gF q0u (ixO 0 (z3w q02 (pF q0a 0 (muN q02 1)) q03 (pF q0b 0 (muN q03 1)) q04 (pF q0e 0 (muN q04 1)) q0f) 1)) (gF q0u (ixO 0 (z3x q02 (pF q0a 0 (muN q02 1)) q03 (pF q0b 0 (muN q03 1)) q04 (pF q0e 0 (muN q04 1)) q0f) 1)) (fop BinOp.quo FloatKind.f32 (fop BinOp.sub FloatKind.f32 (z54 q02 (pF q0a 0 (muN q02 1)) q03 (pF q0b 0 (muN q03 1)) q04 (pF q0e 0 (muN q04 1)) q0f) (z46 q02 (pF q0a 0 (muN q02 1)) q03 (pF q0b 0 (muN q03 1)) q04 (pF q0e 0 (muN q04 1)) q0f)) (fop BinOp.sub FloatKind.f32 (z4r q02 (pF q0a 0 (muN q02 1)) q03 (pF q0b 0 (muN q03 1)) q04 (pF q0e 0 (muN q04 1)) q0f) (z46 q02 (pF q0a 0 (muN q02 1)) q03 (pF q0b 0 (muN q03 1)) q04 (pF q0e 0 (muN q04 1)) q0f)))))))) (grd (okIx (z3w q02 (pF q0a 0 (muN q02 1)) q03 (pF q0b 0 (muN q03 1)) q04 (pF q0e 0 (muN q04 1)) q0f) q0q) (grd (okIx (z3x q02 (pF q0a 0 (muN q02 1)) q03 (pF q0b 0 (muN q03 1)) q04 (pF q0e 0 (muN q04 1)) q0f) q0q) (grd (za3 (gF q0u (ixO 0 (z3w q02 (pF q0a 0 (muN q02 1)) q03 (pF q0b 0 (muN q03 1)) q04 (pF q0e 0 (muN q04 1)) q0f) 1)) (gF q0u (ixO 0 (z3x q02 (pF q0a 0 (muN q02 1)) q03 (pF q0b 0 (muN q03 1)) q04 (pF q0e 0 (muN q04 1)) q0f) 1)) 0) (k_ (z9t (gF q0u (ixO 0 (z3w q02 (pF q0a 0 (muN q02 1)) q03 (pF q0b 0 (muN q03 1)) q04 (pF q0e 0 (muN q04 1)) q0f) 1)) (gF q0u (ixO 0 (z3x q02 (pF q0a 0 (muN q02 1)) q03 (pF q0b 0 (muN q03 1)) q04 (pF q0e 0 (muN q04 1)) q0f) 1)) 0)))))))
noncomputable def z5y (q02 : Nat) (q0a : List Nat) (q03 : Nat) (q0b : List Nat) (q04 : Nat) (q0e : List Nat) (q0q : Nat) (q0u : List Nat) (q0f : Nat) : Option (Nat) := z63 q02 q0a q03 q0b q04 q0e q0q q0u q0f (fun c0_ => some c0_)
theorem zcf {R R' : Type} (o : Option R → Option R') (h0 : o none = none) (q02 : Nat) (q0a : List Nat) (q03 : Nat) (q0b : List Nat) (q04 : Nat) (q0e : List Nat) (q0q : Nat) (q0u : List Nat) (q0f : Nat) (k_ : Nat → Option R) : z63 q02 q0a q03 q0b q04 q0e q0q q0u q0f (fun c0_ => o (k_ c0_)) = o (z63 q02 q0a q03 q0b q04 q0e q0q q0u q0f k_) := by
  unfold z63
  repeat (first | refine grd_out h0 ?_ | refine br_out ?_ ?_ | rfl | exact h0.symm)
noncomputable def z8w (q02 : Nat) (q0a : List Nat) (q03 : Nat) (q0b : List Nat) (q04 : Nat) (q0e : List Nat) (q0q : Nat) (q0u : List Nat) (q0f : Nat) : Bool := (z5y q02 q0a q03 q0b q04 q0e q0q q0u q0f).isSome
noncomputable def z5n (q02 : Nat) (q0a : List Nat) (q03 : Nat) (q0b : List Nat) (q04 : Nat) (q0e : List Nat) (q0q : Nat) (q0u : List Nat) (q0f : Nat) : Nat := ((z5y q02 q0a q03 q0b q04 q0e q0q q0u q0f).getD default)
theorem zdc {q02 : Nat} {q0a : List Nat} {q03 : Nat} {q0b : List Nat} {q04 : Nat} {q0e : List Nat} {q0q : Nat} {q0u : List Nat} {q0f : Nat} {r : Nat} (h : z5y q02 q0a q03 q0b q04 q0e q0q q0u q0f = some r) : z8w q02 q0a q03 q0b q04 q0e q0q q0u q0f = true ∧ z5n q02 q0a q03 q0b q04 q0e q0q q0u q0f = r := by
  unfold z8w z5n
  rw [h]
  exact ⟨rfl, rfl⟩
noncomputable def z92 {R : Type} (q02 : Nat) (q0a : List Nat) (q03 : Nat) (q0b : List Nat) (q04 : Nat) (q0e : List Nat) (q0q : Nat) (q0u : List Nat) (q0f : Nat) (k_ : Nat → Option R) : Option R := (grd (zad q02 (pF q0a 0 (muN q02 1)) q03 (pF q0b 0 (muN q03 1)) q04 (pF q0e 0 (muN q04 1)) q0f) (grd (okIx (z5u q02 (pF q0a 0 (muN q02 1)) q03 (pF q0b 0 (muN q03 1)) q04 (pF q0e 0 (muN q04 1)) q0f) q0q) (grd (okIx (z8f q02 (pF q0a 0 (muN q02 1)) q03 (pF q0b 0 (muN q03 1)) q04 (pF q0e 0 (muN q04 1)) q0f) q0q) (grd (okIx (z5u q02 (pF q0a 0 (muN q02 1)) q03 (pF q0b 0 (muN q03 1)) q04 (pF q0e 0 (muN q04 1)) q0f) q0q) (k_ (fop BinOp.add FloatKind.f32 (gF q0u (ixO 0 (z5u q02 (pF q0a 0 (muN q02 1)) q03 (pF q0b 0 (muN q03 1)) q04 (pF q0e 0 (muN q04 1)) q0f) 1)) (fop BinOp.mul FloatKind.f32 (za2 q02 (pF q0a 0 (muN q02 1)) q03 (pF q0b 0 (muN q03 1)) q04 (pF q0e 0 (muN q04 1)) q0f) (fop BinOp.sub FloatKind.f32 (gF q0u (ixO 0 (z8f q02 (pF q0a 0 (muN q02 1)) q03 (pF q0b 0 (muN q03 1)) q04 (pF q0e 0 (muN q04 1)) q0f) 1)) (gF q0u (ixO 0 (z5u q02 (pF q0a 0 (muN q02 1)) q03 (pF q0b 0 (muN q03 1)) q04 (pF q0e 0 (muN q04 1)) q0f) 1))))))))))
noncomputable def z9b (q02 : Nat) (q0a : List Nat) (q03 : Nat) (q0b : List Nat) (q04 : Nat) (q0e : List Nat) (q0q : Nat) (q0u : List Nat) (q0f : Nat) : Option (Nat) := z92 q02 q0a q03 q0b q04 q0e q0q q0u q0f (fun c0_ => some c0_)
theorem zee {R R' : Type} (o : Option R → Option R') (h0 : o none = none) (q02 : Nat) (q0a : List Nat) (q03 : Nat) (q0b : List Nat) (q04 : Nat) (q0e : List Nat) (q0q : Nat) (q0u : List Nat) (q0f : Nat) (k_ : Nat → Option R) : z92 q02 q0a q03 q0b q04 q0e q0q q0u q0f (fun c0_ => o (k_ c0_)) = o (z92 q02 q0a q03 q0b q04 q0e q0q q0u q0f k_) := by
  unfold z92
  repeat (first | refine grd_out h0 ?_ | refine br_out ?_ ?_ | rfl | exact h0.symm)
noncomputable def zas (q02 : Nat) (q0a : List Nat) (q03 : Nat) (q0b : List Nat) (q04 : Nat) (q0e : List Nat) (q0q : Nat) (q0u : List Nat) (q0f : Nat) : Bool := (z9b q02 q0a q03 q0b q04 q0e q0q q0u q0f).isSome
noncomputable def zar (q02 : Nat) (q0a : List Nat) (q03 : Nat) (q0b : List Nat) (q04 : Nat) (q0e : List Nat) (q0q : Nat) (q0u : List Nat) (q0f : Nat) : Nat := ((z9b q02 q0a q03 q0b q04 q0e q0q q0u q0f).getD default)
theorem zfd {q02 : Nat} {q0a : List Nat} {q03 : Nat} {q0b : List Nat} {q04 : Nat} {q0e : List Nat} {q0q : Nat} {q0u : List Nat} {q0f : Nat} {r : Nat} (h : z9b q02 q0a q03 q0b q04 q0e q0q q0u q0f = some r) : zas q02 q0a q03 q0b q04 q0e q0q q0u q0f = true ∧ zar q02 q0a q03 q0b q04 q0e q0q q0u q0f = r := by
  unfold zas zar
  rw [h]
  exact ⟨rfl, rfl⟩
noncomputable def z8b {R : Type} (q02 : Nat) (q0a : List Nat) (q03 : Nat) (q0b : List Nat) (q04 : Nat) (q0e : List Nat) (q0f : Nat) (k_ : Nat → Bool → Option R) : Option R := (grd (z7y q02 (pF q0a 0 (muN q02 1)) q03 (pF q0b 0 (muN q03 1)) q04 (pF q0e 0 (muN q04 1))) (br (bnot (z7g q02 (pF q0a 0 (muN q02 1)) q03 (pF q0b 0 (muN q03 1)) q04 (pF q0e 0 (muN q04 1)))) (k_ 0 Bool.false) (grd (z58 q0f) (br (bnot (z4z q0f)) (k_ 0 Bool.false) (grd (z8w q02 (pF q0a 0 (muN q02 1)) q03 (pF q0b 0 (muN q03 1)) q04 (pF q0e 0 (muN q04 1)) q03 (pF q0b 0 (muN q03 1)) q0f) (grd (z7o (z5n q02 (pF q0a 0 (muN q02 1)) q03 (pF q0b 0 (muN q03 1)) q04 (pF q0e 0 (muN q04 1)) q03 (pF q0b 0 (muN q03 1)) q0f)) (k_ (z6w (z5n q02 (pF q0a 0 (muN q02 1)) q03 (pF q0b 0 (muN q03 1)) q04 (pF q0e 0 (muN q04 1)) q03 (pF q0b 0 (muN q03 1)) q0f)) (z6z (z5n q02 (pF q0a 0 (muN q02 1)) q03 (pF q0b 0 (muN q03 1)) q04 (pF q0e 0 (muN q04 1)) q03 (pF q0b 0 (muN q03 1)) q0f)))))))))
noncomputable def z72 (q02 : Nat) (q0a : List Nat) (q03 : Nat) (q0b : List Nat) (q04 : Nat) (q0e : List Nat) (q0f : Nat) : Option (Nat × Bool) := z8b q02 q0a q03 q0b q04 q0e q0f (fun c0_ c1_ => some (c0_, c1_))
theorem ze8 {R R' : Type} (o : Option R → Option R') (h0 : o none = none) (q02 : Nat) (q0a : List Nat) (q03 : Nat) (q0b : List Nat) (q04 : Nat) (q0e : List Nat) (q0f : Nat) (k_ : Nat → Bool → Option R) : z8b q02 q0a q03 q0b q04 q0e q0f (fun c0_ c1_ => o (k_ c0_ c1_)) = o (z8b q02 q0a q03 q0b q04 q0e q0f k_) := by
  unfold z8b
  repeat (first | refine grd_out h0 ?_ | refine br_out ?_ ?_ | rfl | exact h0.symm)
noncomputable def zaq (q02 : Nat) (q0a : List Nat) (q03 : Nat) (q0b : List Nat) (q04 : Nat) (q0e : List Nat) (q0f : Nat) : Bool := (z72 q02 q0a q03 q0b q04 q0e q0f).isSome
noncomputable def z52 (q02 : Nat) (q0a : List Nat) (q03 : Nat) (q0b : List Nat) (q04 : Nat) (q0e : List Nat) (q0f : Nat) : Nat := ((z72 q02 q0a q03 q0b q04 q0e q0f).getD default).1
noncomputable def zae (q02 : Nat) (q0a : List Nat) (q03 : Nat) (q0b : List Nat) (q04 : Nat) (q0e : List Nat) (q0f : Nat) : Bool := ((z72 q02 q0a q03 q0b q04 q0e q0f).getD default).2
theorem zf9 {q02 : Nat} {q0a : List Nat} {q03 : Nat} {q0b : List Nat} {q04 : Nat} {q0e : List Nat} {q0f : Nat} {r : Nat × Bool} (h : z72 q02 q0a q03 q0b q04 q0e q0f = some r) : zaq q02 q0a q03 q0b q04 q0e q0f = true ∧ z52 q02 q0a q03 q0b q04 q0e q0f = r.1 ∧ zae q02 q0a q03 q0b q04 q0e q0f = r.2 := by
  unfold zaq z52 zae
  rw [h]
  exact ⟨rfl, rfl, rfl⟩
noncomputable def z7n {R : Type} (q02 : Nat) (q0a : List Nat) (q03 : Nat) (q0b : List Nat) (q04 : Nat) (q0e : List Nat) (q0f : Nat) (k_ : Nat → Option R) : Option R := (grd (zas q02 (pF q0a 0 (muN q02 1)) q03 (pF q0b 0 (muN q03 1)) q04 (pF q0e 0 (muN q04 1)) q03 (pF q0b 0 (muN q03 1)) q0f) (k_ (zar q02 (pF q0a 0 (muN q02 1)) q03 (pF q0b 0 (muN q03 1)) q04 (pF q0e 0 (muN q04 1)) q03 (pF q0b 0 (muN q03 1)) q0f)))
noncomputable def z7h (q02 : Nat) (q0a : List Nat) (q03 : Nat) (q0b : List Nat) (q04 : Nat) (q0e : List Nat) (q0f : Nat) : Option (Nat) := z7n q02 q0a q03 q0b q04 q0e q0f (fun c0_ => some c0_)
theorem zde {R R' : Type} (o : Option R → Option R') (h0 : o none = none) (q02 : Nat) (q0a : List Nat) (q03 : Nat) (q0b : List Nat) (q04 : Nat) (q0e : List Nat) (q0f : Nat) (k_ : Nat → Option R) : z7n q02 q0a q03 q0b q04 q0e q0f (fun c0_ => o (k_ c0_)) = o (z7n q02 q0a q03 q0b q04 q0e q0f k_) := by
  unfold z7n
  repeat (first | refine grd_out h0 ?_ | refine br_out ?_ ?_ | rfl | exact h0.symm)
noncomputable def zaf (q02 : Nat) (q0a : List Nat) (q03 : Nat) (q0b : List Nat) (q04 : Nat) (q0e : List Nat) (q0f : Nat) : Bool := (z7h q02 q0a q03 q0b q04 q0e q0f).isSome
noncomputable def z4w (q02 : Nat) (q0a : List Nat) (q03 : Nat) (q0b : List Nat) (q04 : Nat) (q0e : List Nat) (q0f : Nat) : Nat := ((z7h q02 q0a q03 q0b q04 q0e q0f).getD default)
theorem zey {q02 : Nat} {q0a : List Nat} {q03 : Nat} {q0b : List Nat} {q04 : Nat} {q0e : List Nat} {q0f : Nat} {r : Nat} (h : z7h q02 q0a q03 q0b q04 q0e q0f = some r) : zaf q02 q0a q03 q0b q04 q0e q0f = true ∧ z4w q02 q0a q03 q0b q04 q0e q0f = r := by
  unfold zaf z4w
  rw [h]
  exact ⟨rfl, rfl⟩
noncomputable def z6k {R : Type} (q02 : Nat) (q0a : List Nat) (q03 : Nat) (q0b : List Nat) (q04 : Nat) (q0e : List Nat) (q0f : Nat) (q0t : Nat) (q0v : Bool) (k_ : Nat → Bool → Option R) : Option R := (grd (zap q02 (pF q0a 0 (muN q02 1)) q03 (pF q0b 0 (muN q03 1)) q04 (pF q0e 0 (muN q04 1)) q0f) (br (bnot (zai q02 (pF q0a 0 (muN q02 1)) q03 (pF q0b 0 (muN q03 1)) q04 (pF q0e 0 (muN q04 1)) q0f)) (k_ 0 Bool.false) (grd (z4f q0t) (br (bnot (z48 q0t)) (k_ 0 Bool.false) (grd (zaf q02 (pF q0a 0 (muN q02 1)) q03 (pF q0b 0 (muN q03 1)) q04 (pF q0e 0 (muN q04 1)) q0f) (br q0v (grd (z7s (fop BinOp.mul FloatKind.f32 (z4w q02 (pF q0a 0 (muN q02 1)) q03 (pF q0b 0 (muN q03 1)) q04 (pF q0e 0 (muN q04 1)) q0f) q0t)) (k_ (z79 (fop BinOp.mul FloatKind.f32 (z4w q02 (pF q0a 0 (muN q02 1)) q03 (pF q0b 0 (muN q03 1)) q04 (pF q0e 0 (muN q04 1)) q0f) q0t)) (z7a (fop BinOp.mul FloatKind.f32 (z4w q02 (pF q0a 0 (muN q02 1)) q03 (pF q0b 0 (muN q03 1)) q04 (pF q0e 0 (muN q04 1)) q0f) q0t)))) (grd (z7s (z4w q02 (pF q0a 0 (muN q02 1)) q03 (pF q0b 0 (muN q03 1)) q04 (pF q0e 0 (muN q04 1)) q0f)) (k_ (z79 (z4w q02 (pF q0a 0 (muN q02 1)) q03 (pF q0b 0 (muN q03 1)) q04 (pF q0e 0 (muN q04 1)) q0f)) (z7a (z4w q02 (pF q0a 0 (muN q02 1)) q03 (pF q0b 0 (muN q03 1)) q04 (pF q0e 0 (muN q04 1)) q0f))))))))))
noncomputable def z5g (q02 : Nat) (q0a : List Nat) (q03 : Nat) (q0b : List Nat) (q04 : Nat) (q0e : List Nat) (q0f : Nat) (q0t : Nat) (q0v : Bool) : Option (Nat × Bool) := z6k q02 q0a q03 q0b q04 q0e q0f q0t q0v (fun c0_ c1_ => some (c0_, c1_))
theorem zcv {R R' : Type} (o : Option R → Option R') (h0 : o none = none) (q02 : Nat) (q0a : List Nat) (q03 : Nat) (q0b : List Nat) (q04 : Nat) (q0e : List Nat) (q0f : Nat) (q0t : Nat) (q0v : Bool) (k_ : Nat → Bool → Option R) : z6k q02 q0a q03 q0b q04 q0e q0f q0t q0v (fun c0_ c1_ => o (k_ c0_ c1_)) = o (z6k q02 q0a q03 q0b q04 q0e q0f q0t q0v k_) := by
  unfold z6k
  repeat (first | refine grd_out h0 ?_ | refine br_out ?_ ?_ | rfl | exact h0.symm)
noncomputable def z9k (q02 : Nat) (q0a : List Nat) (q03 : Nat) (q0b : List Nat) (q04 : Nat) (q0e : List Nat) (q0f : Nat) (q0t : Nat) (q0v : Bool) : Bool := (z5g q02 q0a q03 q0b q04 q0e q0f q0t q0v).isSome
noncomputable def z74 (q02 : Nat) (q0a : List Nat) (q03 : Nat) (q0b : List Nat) (q04 : Nat) (q0e : List Nat) (q0f : Nat) (q0t : Nat) (q0v : Bool) : Nat := ((z5g q02 q0a q03 q0b q04 q0e q0f q0t q0v).getD default).1
noncomputable def z8z (q02 : Nat) (q0a : List Nat) (q03 : Nat) (q0b : List Nat) (q04 : Nat) (q0e : List Nat) (q0f : Nat) (q0t : Nat) (q0v : Bool) : Bool := ((z5g q02 q0a q03 q0b q04 q0e q0f q0t q0v).getD default).2
theorem zdw {q02 : Nat} {q0a : List Nat} {q03 : Nat} {q0b : List Nat} {q04 : Nat} {q0e : List Nat} {q0f : Nat} {q0t : Nat} {q0v : Bool} {r : Nat × Bool} (h : z5g q02 q0a q03 q0b q04 q0e q0f q0t q0v = some r) : z9k q02 q0a q03 q0b q04 q0e q0f q0t q0v = true ∧ z74 q02 q0a q03 q0b q04 q0e q0f q0t q0v = r.1 ∧ z8z q02 q0a q03 q0b q04 q0e q0f q0t q0v = r.2 := by
  unfold z9k z74 z8z
  rw [h]
  exact ⟨rfl, rfl, rfl⟩
noncomputable def z6j {R : Type} (q02 : Nat) (q0a : List Nat) (q03 : Nat) (q0b : List Nat) (q04 : Nat) (q0e : List Nat) (q0f : Nat) (q0t : Nat) (q0v : Bool) (k_ : Nat → Bool → Option R) : Option R := (grd (zaq q02 (pF q0a 0 (muN q02 1)) q03 (pF q0b 0 (muN q03 1)) q04 (pF q0e 0 (muN q04 1)) q0f) (br (bnot (zae q02 (pF q0a 0 (muN q02 1)) q03 (pF q0b 0 (muN q03 1)) q04 (pF q0e 0 (muN q04 1)) q0f)) (k_ 0 Bool.false) (grd (z58 q0t) (br (bnot (z4z q0t)) (k_ 0 Bool.false) (br q0v (grd (z7o (fop BinOp.mul FloatKind.f32 (z52 q02 (pF q0a 0 (muN q02 1)) q03 (pF q0b 0 (muN q03 1)) q04 (pF q0e 0 (muN q04 1)) q0f) q0t)) (k_ (z6w (fop BinOp.mul FloatKind.f32 (z52 q02 (pF q0a 0 (muN q02 1)) q03 (pF q0b 0 (muN q03 1)) q04 (pF q0e 0 (muN q04 1)) q0f) q0t)) (z6z (fop BinOp.mul FloatKind.f32 (z52 q02 (pF q0a 0 (muN q02 1)) q03 (pF q0b 0 (muN q03 1)) q04 (pF q0e 0 (muN q04 1)) q0f) q0t)))) (grd (z7o (z52 q02 (pF q0a 0 (muN q02 1)) q03 (pF q0b 0 (muN q03 1)) q04 (pF q0e 0 (muN q04 1)) q0f)) (k_ (z6w (z52 q02 (pF q0a 0 (muN q02 1)) q03 (pF q0b 0 (muN q03 1)) q04 (pF q0e 0 (muN q04 1)) q0f)) (z6z (z52 q02 (pF q0a 0 (muN q02 1)) q03 (pF q0b 0 (muN q03 1)) q04 (pF q0e 0 (muN q04 1)) q0f)))))))))
noncomputable def z5f (q02 : Nat) (q0a : List Nat) (q03 : Nat) (q0b : List Nat) (q04 : Nat) (q0e : List Nat) (q0f : Nat) (q0t : Nat) (q0v : Bool) : Option (Nat × Bool) := z6j q02 q0a q03 q0b q04 q0e q0f q0t q0v (fun c0_ c1_ => some (c0_, c1_))
theorem zcx {R R' : Type} (o : Option R → Option R') (h0 : o none = none) (q02 : Nat) (q0a : List Nat) (q03 : Nat) (q0b : List Nat) (q04 : Nat) (q0e : List Nat) (q0f : Nat) (q0t : Nat) (q0v : Bool) (k_ : Nat → Bool → Option R) : z6j q02 q0a q03 q0b q04 q0e q0f q0t q0v (fun c0_ c1_ => o (k_ c0_ c1_)) = o (z6j q02 q0a q03 q0b q04 q0e q0f q0t q0v k_) := by
  unfold z6j
  repeat (first | refine grd_out h0 ?_ | refine br_out ?_ ?_ | rfl | exact h0.symm)
noncomputable def z9r (q02 : Nat) (q0a : List Nat) (q03 : Nat) (q0b : List Nat) (q04 : Nat) (q0e : List Nat) (q0f : Nat) (q0t : Nat) (q0v : Bool) : Bool := (z5f q02 q0a q03 q0b q04 q0e q0f q0t q0v).isSome
noncomputable def z76 (q02 : Nat) (q0a : List Nat) (q03 : Nat) (q0b : List Nat) (q04 : Nat) (q0e : List Nat) (q0f : Nat) (q0t : Nat) (q0v : Bool) : Nat := ((z5f q02 q0a q03 q0b q04 q0e q0f q0t q0v).getD default).1
noncomputable def z8x (q02 : Nat) (q0a : List Nat) (q03 : Nat) (q0b : List Nat) (q04 : Nat) (q0e : List Nat) (q0f : Nat) (q0t : Nat) (q0v : Bool) : Bool := ((z5f q02 q0a q03 q0b q04 q0e q0f q0t q0v).getD default).2
theorem ze7 {q02 : Nat} {q0a : List Nat} {q03 : Nat} {q0b : List Nat} {q04 : Nat} {q0e : List Nat} {q0f : Nat} {q0t : Nat} {q0v : Bool} {r : Nat × Bool} (h : z5f q02 q0a q03 q0b q04 q0e q0f q0t q0v = some r) : z9r q02 q0a q03 q0b q04 q0e q0f q0t q0v = true ∧ z76 q02 q0a q03 q0b q04 q0e q0f q0t q0v = r.1 ∧ z8x q02 q0a q03 q0b q04 q0e q0f q0t q0v = r.2 := by
  unfold z9r z76 z8x
  rw [h]
  exact ⟨rfl, rfl, rfl⟩
noncomputable def z4s {R : Type} (q05 : Nat) (q0h : List Nat) (q07 : Nat) (q0k : List Nat) (q06 : Nat) (q0j : List Nat) (q14 : Nat) (q12 : Nat) (q13 : Bool) (k_ : Bool → Option R) : Option R := (grd (z7w q05 (pF q0h 0 (muN q05 1)) q07 (pF q0k 0 (muN q07 1)) q06 (pF q0j 0 (muN q06 1)) 1048576) (br (ltI (z77 q05 (pF q0h 0 (muN q05 1)) q07 (pF q0k 0 (muN q07 1)) q06 (pF q0j 0 (muN q06 1)) 1048576) 0) (k_ Bool.true) (grd (z5i q05 (pF q0h 0 (muN q05 1)) q07 (pF q0k 0 (muN q07 1)) q06 (pF q0j 0 (muN q06 1))) (grd (z9k (z2g q05 (pF q0h 0 (muN q05 1)) q07 (pF q0k 0 (muN q07 1)) q06 (pF q0j 0 (muN q06 1))) (pF (z3g q05 (pF q0h 0 (muN q05 1)) q07 (pF q0k 0 (muN q07 1)) q06 (pF q0j 0 (muN q06 1))) 0 (muN (z2g q05 (pF q0h 0 (muN q05 1)) q07 (pF q0k 0 (muN q07 1)) q06 (pF q0j 0 (muN q06 1))) 1)) (z2h q05 (pF q0h 0 (muN q05 1)) q07 (pF q0k 0 (muN q07 1)) q06 (pF q0j 0 (muN q06 1))) (pF (z3h q05 (pF q0h 0 (muN q05 1)) q07 (pF q0k 0 (muN q07 1)) q06 (pF q0j 0 (muN q06 1))) 0 (muN (z2h q05 (pF q0h 0 (muN q05 1)) q07 (pF q0k 0 (muN q07 1)) q06 (pF q0j 0 (muN q06 1))) 1)) (z2f q05 (pF q0h 0 (muN q05 1)) q07 (pF q0k 0 (muN q07 1)) q06 (pF q0j 0 (muN q06 1))) (pF (z3f q05 (pF q0h 0 (muN q05 1)) q07 (pF q0k 0 (muN q07 1)) q06 (pF q0j 0 (muN q06 1))) 0 (muN (z2f q05 (pF q0h 0 (muN q05 1)) q07 (pF q0k 0 (muN q07 1)) q06 (pF q0j 0 (muN q06 1))) 1)) q14 q12 q13) (grd (z5i q05 (pF q0h 0 (muN q05 1)) q07 (pF q0k 0 (muN q07 1)) q06 (pF q0j 0 (muN q06 1))) (grd (z9r (z2g q05 (pF q0h 0 (muN q05 1)) q07 (pF q0k 0 (muN q07 1)) q06 (pF q0j 0 (muN q06 1))) (pF (z3g q05 (pF q0h 0 (muN q05 1)) q07 (pF q0k 0 (muN q07 1)) q06 (pF q0j 0 (muN q06 1))) 0 (muN (z2g q05 (pF q0h 0 (muN q05 1)) q07 (pF q0k 0 (muN q07 1)) q06 (pF q0j 0 (muN q06 1))) 1)) (z2h q05 (pF q0h 0 (muN q05 1)) q07 (pF q0k 0 (muN q07 1)) q06 (pF q0j 0 (muN q06 1))) (pF (z3h q05 (pF q0h 0 (muN q05 1)) q07 (pF q0k 0 (muN q07 1)) q06 (pF q0j 0 (muN q06 1))) 0 (muN (z2h q05 (pF q0h 0 (muN q05 1)) q07 (pF q0k 0 (muN q07 1)) q06 (pF q0j 0 (muN q06 1))) 1)) (z2f q05 (pF q0h 0 (muN q05 1)) q07 (pF q0k 0 (muN q07 1)) q06 (pF q0j 0 (muN q06 1))) (pF (z3f q05 (pF q0h 0 (muN q05 1)) q07 (pF q0k 0 (muN q07 1)) q06 (pF q0j 0 (muN q06 1))) 0 (muN (z2f q05 (pF q0h 0 (muN q05 1)) q07 (pF q0k 0 (muN q07 1)) q06 (pF q0j 0 (muN q06 1))) 1)) q14 q12 q13) (grd (z7q (fcvV FloatKind.f32 FloatKind.f64 (z76 (z2g q05 (pF q0h 0 (muN q05 1)) q07 (pF q0k 0 (muN q07 1)) q06 (pF q0j 0 (muN q06 1))) (pF (z3g q05 (pF q0h 0 (muN q05 1)) q07 (pF q0k 0 (muN q07 1)) q06 (pF q0j 0 (muN q06 1))) 0 (muN (z2g q05 (pF q0h 0 (muN q05 1)) q07 (pF q0k 0 (muN q07 1)) q06 (pF q0j 0 (muN q06 1))) 1)) (z2h q05 (pF q0h 0 (muN q05 1)) q07 (pF q0k 0 (muN q07 1)) q06 (pF q0j 0 (muN q06 1))) (pF (z3h q05 (pF q0h 0 (muN q05 1)) q07 (pF q0k 0 (muN q07 1)) q06 (pF q0j 0 (muN q06 1))) 0 (muN (z2h q05 (pF q0h 0 (muN q05 1)) q07 (pF q0k 0 (muN q07 1)) q06 (pF q0j 0 (muN q06 1))) 1)) (z2f q05 (pF q0h 0 (muN q05 1)) q07 (pF q0k 0 (muN q07 1)) q06 (pF q0j 0 (muN q06 1))) (pF (z3f q05 (pF q0h 0 (muN q05 1)) q07 (pF q0k 0 (muN q07 1)) q06 (pF q0j 0 (muN q06 1))) 0 (muN (z2f q05 (pF q0h 0 (muN q05 1)) q07 (pF q0k 0 (muN q07 1)) q06 (pF q0j 0 (muN q06 1))) 1)) q14 q12 q13)) (fcvV FloatKind.f32 FloatKind.f64 (z74 (z2g q05 (pF q0h 0 (muN q05 1)) q07 (pF q0k 0 (muN q07 1)) q06 (pF q0j 0 (muN q06 1))) (pF (z3g q05 (pF q0h 0 (muN q05 1)) q07 (pF q0k 0 (muN q07 1)) q06 (pF q0j 0 (muN q06 1))) 0 (muN (z2g q05 (pF q0h 0 (muN q05 1)) q07 (pF q0k 0 (muN q07 1)) q06 (pF q0j 0 (muN q06 1))) 1)) (z2h q05 (pF q0h 0 (muN q05 1)) q07 (pF q0k 0 (muN q07 1)) q06 (pF q0j 0 (muN q06 1))) (pF (z3h q05 (pF q0h 0 (muN q05 1)) q07 (pF q0k 0 (muN q07 1)) q06 (pF q0j 0 (muN q06 1))) 0 (muN (z2h q05 (pF q0h 0 (muN q05 1)) q07 (pF q0k 0 (muN q07 1)) q06 (pF q0j 0 (muN q06 1))) 1)) (z2f q05 (pF q0h 0 (muN q05 1)) q07 (pF q0k 0 (muN q07 1)) q06 (pF q0j 0 (muN q06 1))) (pF (z3f q05 (pF q0h 0 (muN q05 1)) q07 (pF q0k 0 (muN q07 1)) q06 (pF q0j 0 (muN q06 1))) 0 (muN (z2f q05 (pF q0h 0 (muN q05 1)) q07 (pF q0k 0 (muN q07 1)) q06 (pF q0j 0 (muN q06 1))) 1)) q14 q12 q13))) (br (bnot (z78 (fcvV FloatKind.f32 FloatKind.f64 (z76 (z2g q05 (pF q0h 0 (muN q05 1)) q07 (pF q0k 0 (muN q07 1)) q06 (pF q0j 0 (muN q06 1))) (pF (z3g q05 (pF q0h 0 (muN q05 1)) q07 (pF q0k 0 (muN q07 1)) q06 (pF q0j 0 (muN q06 1))) 0 (muN (z2g q05 (pF q0h 0 (muN q05 1)) q07 (pF q0k 0 (muN q07 1)) q06 (pF q0j 0 (muN q06 1))) 1)) (z2h q05 (pF q0h 0 (muN q05 1)) q07 (pF q0k 0 (muN q07 1)) q06 (pF q0j 0 (muN q06 1))) (pF (z3h q05 (pF q0h 0 (muN q05 1)) q07 (pF q0k 0 (muN q07 1)) q06 (pF q0j 0 (muN q06 1))) 0 (muN (z2h q05 (pF q0h 0 (muN q05 1)) q07 (pF q0k 0 (muN q07 1)) q06 (pF q0j 0 (muN q06 1))) 1)) (z2f q05 (pF q0h 0 (muN q05 1)) q07 (pF q0k 0 (muN q07 1)) q06 (pF q0j 0 (muN q06 1))) (pF (z3f q05 (pF q0h 0 (muN q05 1)) q07 (pF q0k 0 (muN q07 1)) q06 (pF q0j 0 (muN q06 1))) 0 (muN (z2f q05 (pF q0h 0 (muN q05 1)) q07 (pF q0k 0 (muN q07 1)) q06 (pF q0j 0 (muN q06 1))) 1)) q14 q12 q13)) (fcvV FloatKind.f32 FloatKind.f64 (z74 (z2g q05 (pF q0h 0 (muN q05 1)) q07 (pF q0k 0 (muN q07 1)) q06 (pF q0j 0 (muN q06 1))) (pF (z3g q05 (pF q0h 0 (muN q05 1)) q07 (pF q0k 0 (muN q07 1)) q06 (pF q0j 0 (muN q06 1))) 0 (muN (z2g q05 (pF q0h 0 (muN q05 1)) q07 (pF q0k 0 (muN q07 1)) q06 (pF q0j 0 (muN q06 1))) 1)) (z2h q05 (pF q0h 0 (muN q05 1)) q07 (pF q0k 0 (muN q07 1)) q06 (pF q0j 0 (muN q06 1))) (pF (z3h q05 (pF q0h 0 (muN q05 1)) q07 (pF q0k 0 (muN q07 1)) q06 (pF q0j 0 (muN q06 1))) 0 (muN (z2h q05 (pF q0h 0 (muN q05 1)) q07 (pF q0k 0 (muN q07 1)) q06 (pF q0j 0 (muN q06 1))) 1)) (z2f q05 (pF q0h 0 (muN q05 1)) q07 (pF q0k 0 (muN q07 1)) q06 (pF q0j 0 (muN q06 1))) (pF (z3f q05 (pF q0h 0 (muN q05 1)) q07 (pF q0k 0 (muN q07 1)) q06 (pF q0j 0 (muN q06 1))) 0 (muN (z2f q05 (pF q0h 0 (muN q05 1)) q07 (pF q0k 0 (muN q07 1)) q06 (pF q0j 0 (muN q06 1))) 1)) q14 q12 q13)))) (k_ Bool.false) (br (bnot (beqB (z8x (z2g q05 (pF q0h 0 (muN q05 1)) q07 (pF q0k 0 (muN q07 1)) q06 (pF q0j 0 (muN q06 1))) (pF (z3g q05 (pF q0h 0 (muN q05 1)) q07 (pF q0k 0 (muN q07 1)) q06 (pF q0j 0 (muN q06 1))) 0 (muN (z2g q05 (pF q0h 0 (muN q05 1)) q07 (pF q0k 0 (muN q07 1)) q06 (pF q0j 0 (muN q06 1))) 1)) (z2h q05 (pF q0h 0 (muN q05 1)) q07 (pF q0k 0 (muN q07 1)) q06 (pF q0j 0 (muN q06 1))) (pF (z3h q05 (pF q0h 0 (muN q05 1)) q07 (pF q0k 0 (muN q07 1)) q06 (pF q0j 0 (muN q06 1))) 0 (muN (z2h q05 (pF q0h 0 (muN q05 1)) q07 (pF q0k 0 (muN q07 1)) q06 (pF q0j 0 (muN q06 1))) 1)) (z2f q05 (pF q0h 0 (muN q05 1)) q07 (pF q0k 0 (muN q07 1)) q06 (pF q0j 0 (muN q06 1))) (pF (z3f q05 (pF q0h 0 (muN q05 1)) q07 (pF q0k 0 (muN q07 1)) q06 (pF q0j 0 (muN q06 1))) 0 (muN (z2f q05 (pF q0h 0 (muN q05 1)) q07 (pF q0k 0 (muN q07 1)) q06 (pF q0j 0 (muN q06 1))) 1)) q14 q12 q13) (z8z (z2g q05 (pF q0h 0 (muN q05 1)) q07 (pF q0k 0 (muN q07 1)) q06 (pF q0j 0 (muN q06 1))) (pF (z3g q05 (pF q0h 0 (muN q05 1)) q07 (pF q0k 0 (muN q07 1)) q06 (pF q0j 0 (muN q06 1))) 0 (muN (z2g q05 (pF q0h 0 (muN q05 1)) q07 (pF q0k 0 (muN q07 1)) q06 (pF q0j 0 (muN q06 1))) 1)) (z2h q05 (pF q0h 0 (muN q05 1)) q07 (pF q0k 0 (muN q07 1)) q06 (pF q0j 0 (muN q06 1))) (pF (z3h q05 (pF q0h 0 (muN q05 1)) q07 (pF q0k 0 (muN q07 1)) q06 (pF q0j 0 (muN q06 1))) 0 (muN (z2h q05 (pF q0h 0 (muN q05 1)) q07 (pF q0k 0 (muN q07 1)) q06 (pF q0j 0 (muN q06 1))) 1)) (z2f q05 (pF q0h 0 (muN q05 1)) q07 (pF q0k 0 (muN q07 1)) q06 (pF q0j 0 (muN q06 1))) (pF (z3f q05 (pF q0h 0 (muN q05 1)) q07 (pF q0k 0 (muN q07 1)) q06 (pF q0j 0 (muN q06 1))) 0 (muN (z2f q05 (pF q0h 0 (muN q05 1)) q07 (pF q0k 0 (muN q07 1)) q06 (pF q0j 0 (muN q06 1))) 1)) q14 q12 q13))) (k_ Bool.false) (grd (z5i q05 (pF q0h 0 (muN q05 1)) q07 (pF q0k 0 (muN q07 1)) q06 (pF q0j 0 (muN q06 1))) (grd (z7r (z2g q05 (pF q0h 0 (muN q05 1)) q07 (pF q0k 0 (muN q07 1)) q06 (pF q0j 0 (muN q06 1))) (pF (z3g q05 (pF q0h 0 (muN q05 1)) q07 (pF q0k 0 (muN q07 1)) q06 (pF q0j 0 (muN q06 1))) 0 (muN (z2g q05 (pF q0h 0 (muN q05 1)) q07 (pF q0k 0 (muN q07 1)) q06 (pF q0j 0 (muN q06 1))) 1)) (z2h q05 (pF q0h 0 (muN q05 1)) q07 (pF q0k 0 (muN q07 1)) q06 (pF q0j 0 (muN q06 1))) (pF (z3h q05 (pF q0h 0 (muN q05 1)) q07 (pF q0k 0 (muN q07 1)) q06 (pF q0j 0 (muN q06 1))) 0 (muN (z2h q05 (pF q0h 0 (muN q05 1)) q07 (pF q0k 0 (muN q07 1)) q06 (pF q0j 0 (muN q06 1))) 1)) (z2f q05 (pF q0h 0 (muN q05 1)) q07 (pF q0k 0 (muN q07 1)) q06 (pF q0j 0 (muN q06 1))) (pF (z3f q05 (pF q0h 0 (muN q05 1)) q07 (pF q0k 0 (muN q07 1)) q06 (pF q0j 0 (muN q06 1))) 0 (muN (z2f q05 (pF q0h 0 (muN q05 1)) q07 (pF q0k 0 (muN q07 1)) q06 (pF q0j 0 (muN q06 1))) 1)) (z2g q05 (pF q0h 0 (muN q05 1)) q07 (pF q0k 0 (muN q07 1)) q06 (pF q0j 0 (muN q06 1))) (pF (z3g q05 (pF q0h 0 (muN q05 1)) q07 (pF q0k 0 (muN q07 1)) q06 (pF q0j 0 (muN q06 1))) 0 (muN (z2g q05 (pF q0h 0 (muN q05 1)) q07 (pF q0k 0 (muN q07 1)) q06 (pF q0j 0 (muN q06 1))) 1)) (z2h q05 (pF q0h 0 (muN q05 1)) q07 (pF q0k 0 (muN q07 1)) q06 (pF q0j 0 (muN q06 1))) (pF (z3h q05 (pF q0h 0 (muN q05 1)) q07 (pF q0k 0 (muN q07 1)) q06 (pF q0j 0 (muN q06 1))) 0 (muN (z2h q05 (pF q0h 0 (muN q05 1)) q07 (pF q0k 0 (muN q07 1)) q06 (pF q0j 0 (muN q06 1))) 1)) (z2f q05 (pF q0h 0 (muN q05 1)) q07 (pF q0k 0 (muN q07 1)) q06 (pF q0j 0 (muN q06 1))) (pF (z3f q05 (pF q0h 0 (muN q05 1)) q07 (pF q0k 0 (muN q07 1)) q06 (pF q0j 0 (muN q06 1))) 0 (muN (z2f q05 (pF q0h 0 (muN q05 1)) q07 (pF q0k 0 (muN q07 1)) q06 (pF q0j 0 (muN q06 1))) 1))) (br (bnot (z73 (z2g q05 (pF q0h 0 (muN q05 1)) q07 (pF q0k 0 (muN q07 1)) q06 (pF q0j 0 (muN q06 1))) (pF (z3g q05 (pF q0h 0 (muN q05 1)) q07 (pF q0k 0 (muN q07 1)) q06 (pF q0j 0 (muN q06 1))) 0 (muN (z2g q05 (pF q0h 0 (muN q05 1)) q07 (pF q0k 0 (muN q07 1)) q06 (pF q0j 0 (muN q06 1))) 1)) (z2h q05 (pF q0h 0 (muN q05 1)) q07 (pF q0k 0 (muN q07 1)) q06 (pF q0j 0 (muN q06 1))) (pF (z3h q05 (pF q0h 0 (muN q05 1)) q07 (pF q0k 0 (muN q07 1)) q06 (pF q0j 0 (muN q06 1))) 0 (muN (z2h q05 (pF q0h 0 (muN q05 1)) q07 (pF q0k 0 (muN q07 1)) q06 (pF q0j 0 (muN q06 1))) 1)) (z2f q05 (pF q0h 0 (muN q05 1)) q07 (pF q0k 0 (muN q07 1)) q06 (pF q0j 0 (muN q06 1))) (pF (z3f q05 (pF q0h 0 (muN q05 1)) q07 (pF q0k 0 (muN q07 1)) q06 (pF q0j 0 (muN q06 1))) 0 (muN (z2f q05 (pF q0h 0 (muN q05 1)) q07 (pF q0k 0 (muN q07 1)) q06 (pF q0j 0 (muN q06 1))) 1)) (z2g q05 (pF q0h 0 (muN q05 1)) q07 (pF q0k 0 (muN q07 1)) q06 (pF q0j 0 (muN q06 1))) (pF (z3g q05 (pF q0h 0 (muN q05 1)) q07 (pF q0k 0 (muN q07 1)) q06 (pF q0j 0 (muN q06 1))) 0 (muN (z2g q05 (pF q0h 0 (muN q05 1)) q07 (pF q0k 0 (muN q07 1)) q06 (pF q0j 0 (muN q06 1))) 1)) (z2h q05 (pF q0h 0 (muN q05 1)) q07 (pF q0k 0 (muN q07 1)) q06 (pF q0j 0 (muN q06 1))) (pF (z3h q05 (pF q0h 0 (muN q05 1)) q07 (pF q0k 0 (muN q07 1)) q06 (pF q0j 0 (muN q06 1))) 0 (muN (z2h q05 (pF q0h 0 (muN q05 1)) q07 (pF q0k 0 (muN q07 1)) q06 (pF q0j 0 (muN q06 1))) 1)) (z2f q05 (pF q0h 0 (muN q05 1)) q07 (pF q0k 0 (muN q07 1)) q06 (pF q0j 0 (muN q06 1))) (pF (z3f q05 (pF q0h 0 (muN q05 1)) q07 (pF q0k 0 (muN q07 1)) q06 (pF q0j 0 (muN q06 1))) 0 (muN (z2f q05 (pF q0h 0 (muN q05 1)) q07 (pF q0k 0 (muN q07 1)) q06 (pF q0j 0 (muN q06 1))) 1)))) (k_ Bool.false) (k_ Bool.true)))))))))))))
noncomputable def z4t (q05 : Nat) (q0h : List Nat) (q07 : Nat) (q0k : List Nat) (q06 : Nat) (q0j : List Nat) (q14 : Nat) (q12 : Nat) (q13 : Bool) : Option (Bool) := z4s q05 q0h q07 q0k q06 q0j q14 q12 q13 (fun c0_ => some c0_)
theorem zb1 {R R' : Type} (o : Option R → Option R') (h0 : o none = none) (q05 : Nat) (q0h : List Nat) (q07 : Nat) (q0k : List Nat) (q06 : Nat) (q0j : List Nat) (q14 : Nat) (q12 : Nat) (q13 : Bool) (k_ : Bool → Option R) : z4s q05 q0h q07 q0k q06 q0j q14 q12 q13 (fun c0_ => o (k_ c0_)) = o (z4s q05 q0h q07 q0k q06 q0j q14 q12 q13 k_) := by
  unfold z4s
  repeat (first | refine grd_out h0 ?_ | refine br_out ?_ ?_ | rfl | exact h0.symm)
noncomputable def z89 (q05 : Nat) (q0h : List Nat) (q07 : Nat) (q0k : List Nat) (q06 : Nat) (q0j : List Nat) (q14 : Nat) (q12 : Nat) (q13 : Bool) : Bool := (z4t q05 q0h q07 q0k q06 q0j q14 q12 q13).isSome
noncomputable def z7t (q05 : Nat) (q0h : List Nat) (q07 : Nat) (q0k : List Nat) (q06 : Nat) (q0j : List Nat) (q14 : Nat) (q12 : Nat) (q13 : Bool) : Bool := ((z4t q05 q0h q07 q0k q06 q0j q14 q12 q13).getD default)
theorem zbe {q05 : Nat} {q0h : List Nat} {q07 : Nat} {q0k : List Nat} {q06 : Nat} {q0j : List Nat} {q14 : Nat} {q12 : Nat} {q13 : Bool} {r : Bool} (h : z4t q05 q0h q07 q0k q06 q0j q14 q12 q13 = some r) : z89 q05 q0h q07 q0k q06 q0j q14 q12 q13 = true ∧ z7t q05 q0h q07 q0k q06 q0j q14 q12 q13 = r := by
  unfold z89 z7t
  rw [h]
  exact ⟨rfl, rfl⟩
end Go.Rf
