import Derived.Test.YtihlcjjbenkokaaB
set_option linter.unusedVariables false
set_option linter.unusedSimpArgs false
set_option maxRecDepth 100000
set_option maxHeartbeats 4000000
namespace Go.Rf
open Go
noncomputable def z6t {R : Type} (a : Nat) (b : Nat) (k_ : Bool → Option R) : Option R := (br (fcmp BinOp.neq FloatKind.f64 a a) (br (fcmp BinOp.neq FloatKind.f64 a a) (k_ (fcmp BinOp.neq FloatKind.f64 b b)) (k_ Bool.false)) (br (fcmp BinOp.neq FloatKind.f64 b b) (br (fcmp BinOp.neq FloatKind.f64 a a) (k_ (fcmp BinOp.neq FloatKind.f64 b b)) (k_ Bool.false)) (br (fcmp BinOp.eql FloatKind.f64 a 0) (br (fcmp BinOp.eql FloatKind.f64 b 0) (k_ (beqB (fcmp BinOp.gtr FloatKind.f64 (fop BinOp.quo FloatKind.f64 4607182418800017408 a) 0) (fcmp BinOp.gtr FloatKind.f64 (fop BinOp.quo FloatKind.f64 4607182418800017408 b) 0))) (k_ (fcmp BinOp.eql FloatKind.f64 a b))) (k_ (fcmp BinOp.eql FloatKind.f64 a b)))))
noncomputable def z6n (a : Nat) (b : Nat) : Option (Bool) := z6t a b (fun c0_ => some c0_)
theorem zdd {R R' : Type} (o : Option R → Option R') (h0 : o none = none) (a : Nat) (b : Nat) (k_ : Bool → Option R) : z6t a b (fun c0_ => o (k_ c0_)) = o (z6t a b k_) := by
  unfold z6t
  repeat (first | refine grd_out h0 ?_ | refine br_out ?_ ?_ | rfl | exact h0.symm)
noncomputable def z80 (a : Nat) (b : Nat) : Bool := (z6n a b).isSome
noncomputable def z7d (a : Nat) (b : Nat) : Bool := ((z6n a b).getD default)
theorem zbj {a : Nat} {b : Nat} {r : Bool} (h : z6n a b = some r) : z80 a b = true ∧ z7d a b = r := by
  unfold z80 z7d
  rw [h]
  exact ⟨rfl, rfl⟩
noncomputable def z69 {R : Type} (a_n : Nat) (a : List Nat) (q0x : Int) (k_ : Int → Option R) : Option R := (br (ltI (subI IntKind.i64 q0x (Int.ofNat a_n)) 0) (k_ (Int.negSucc 0)) (k_ (subI IntKind.i64 q0x (Int.ofNat a_n))))
noncomputable def z62 (a_n : Nat) (a : List Nat) (q0x : Int) : Option (Int) := z69 a_n a q0x (fun c0_ => some c0_)
theorem zco {R R' : Type} (o : Option R → Option R') (h0 : o none = none) (a_n : Nat) (a : List Nat) (q0x : Int) (k_ : Int → Option R) : z69 a_n a q0x (fun c0_ => o (k_ c0_)) = o (z69 a_n a q0x k_) := by
  unfold z69
  repeat (first | refine grd_out h0 ?_ | refine br_out ?_ ?_ | rfl | exact h0.symm)
noncomputable def z6b (a_n : Nat) (a : List Nat) (q0x : Int) : Bool := (z62 a_n a q0x).isSome
noncomputable def z3m (a_n : Nat) (a : List Nat) (q0x : Int) : Int := ((z62 a_n a q0x).getD default)
theorem zaj {a_n : Nat} {a : List Nat} {q0x : Int} {r : Int} (h : z62 a_n a q0x = some r) : z6b a_n a q0x = true ∧ z3m a_n a q0x = r := by
  unfold z6b z3m
  rw [h]
  exact ⟨rfl, rfl⟩
noncomputable def z8l {R : Type} (x : Nat) (k_ : Bool → Option R) : Option R := (k_ (fcmp BinOp.eql FloatKind.f32 (fop BinOp.sub FloatKind.f32 x x) 0))
noncomputable def z8m (x : Nat) : Option (Bool) := z8l x (fun c0_ => some c0_)
theorem zdl {R R' : Type} (o : Option R → Option R') (h0 : o none = none) (x : Nat) (k_ : Bool → Option R) : z8l x (fun c0_ => o (k_ c0_)) = o (z8l x k_) := by
  unfold z8l
  repeat (first | refine grd_out h0 ?_ | refine br_out ?_ ?_ | rfl | exact h0.symm)
noncomputable def z5b (x : Nat) : Bool := (z8m x).isSome
noncomputable def z52 (x : Nat) : Bool := ((z8m x).getD default)
theorem z7z {x : Nat} {r : Bool} (h : z8m x = some r) : z5b x = true ∧ z52 x = r := by
  unfold z5b z52
  rw [h]
  exact ⟨rfl, rfl⟩
noncomputable def z7y {R : Type} (x : Nat) (k_ : Bool → Option R) : Option R := (k_ (fcmp BinOp.eql FloatKind.f32 (fop BinOp.sub FloatKind.f32 x x) 0))
noncomputable def z81 (x : Nat) : Option (Bool) := z7y x (fun c0_ => some c0_)
theorem zda {R R' : Type} (o : Option R → Option R') (h0 : o none = none) (x : Nat) (k_ : Bool → Option R) : z7y x (fun c0_ => o (k_ c0_)) = o (z7y x k_) := by
  unfold z7y
  repeat (first | refine grd_out h0 ?_ | refine br_out ?_ ?_ | rfl | exact h0.symm)
noncomputable def z4b (x : Nat) : Bool := (z81 x).isSome
noncomputable def z44 (x : Nat) : Bool := ((z81 x).getD default)
theorem z68 {x : Nat} {r : Bool} (h : z81 x = some r) : z4b x = true ∧ z44 x = r := by
  unfold z4b z44
  rw [h]
  exact ⟨rfl, rfl⟩
noncomputable def z71 {R : Type} (x : Nat) (low : Nat) (q15 : Nat) (k_ : Bool → Option R) : Option R := (br (fcmp BinOp.geq FloatKind.f32 x low) (k_ (fcmp BinOp.leq FloatKind.f32 x q15)) (k_ Bool.false))
noncomputable def z6z (x : Nat) (low : Nat) (q15 : Nat) : Option (Bool) := z71 x low q15 (fun c0_ => some c0_)
theorem zdk {R R' : Type} (o : Option R → Option R') (h0 : o none = none) (x : Nat) (low : Nat) (q15 : Nat) (k_ : Bool → Option R) : z71 x low q15 (fun c0_ => o (k_ c0_)) = o (z71 x low q15 k_) := by
  unfold z71
  repeat (first | refine grd_out h0 ?_ | refine br_out ?_ ?_ | rfl | exact h0.symm)
noncomputable def za7 (x : Nat) (low : Nat) (q15 : Nat) : Bool := (z6z x low q15).isSome
noncomputable def z9w (x : Nat) (low : Nat) (q15 : Nat) : Bool := ((z6z x low q15).getD default)
theorem zf3 {x : Nat} {low : Nat} {q15 : Nat} {r : Bool} (h : z6z x low q15 = some r) : za7 x low q15 = true ∧ z9w x low q15 = r := by
  unfold za7 z9w
  rw [h]
  exact ⟨rfl, rfl⟩
noncomputable def zac {R : Type} (a : Nat) (b : Nat) (q14 : Nat) (k_ : Nat → Option R) : Option R := (k_ (fop BinOp.add FloatKind.f32 a (fop BinOp.mul FloatKind.f32 q14 (fop BinOp.sub FloatKind.f32 b a))))
noncomputable def zah (a : Nat) (b : Nat) (q14 : Nat) : Option (Nat) := zac a b q14 (fun c0_ => some c0_)
theorem zet {R R' : Type} (o : Option R → Option R') (h0 : o none = none) (a : Nat) (b : Nat) (q14 : Nat) (k_ : Nat → Option R) : zac a b q14 (fun c0_ => o (k_ c0_)) = o (zac a b q14 k_) := by
  unfold zac
  repeat (first | refine grd_out h0 ?_ | refine br_out ?_ ?_ | rfl | exact h0.symm)
noncomputable def zak (a : Nat) (b : Nat) (q14 : Nat) : Bool := (zah a b q14).isSome
noncomputable def za1 (a : Nat) (b : Nat) (q14 : Nat) : Nat := ((zah a b q14).getD default)
theorem zfx {a : Nat} {b : Nat} {q14 : Nat} {r : Nat} (h : zah a b q14 = some r) : zak a b q14 = true ∧ za1 a b q14 = r := by
  unfold zak za1
  rw [h]
  exact ⟨rfl, rfl⟩
noncomputable def z6v {R : Type} (x : Nat) (k_ : Nat → Option R) : Option R := (grd (fcvB FloatKind.f64 FloatKind.f32 x) (k_ (fcvV FloatKind.f64 FloatKind.f32 x)))
noncomputable def z6r (x : Nat) : Option (Nat) := z6v x (fun c0_ => some c0_)
theorem zdc {R R' : Type} (o : Option R → Option R') (h0 : o none = none) (x : Nat) (k_ : Nat → Option R) : z6v x (fun c0_ => o (k_ c0_)) = o (z6v x k_) := by
  unfold z6v
  repeat (first | refine grd_out h0 ?_ | refine br_out ?_ ?_ | rfl | exact h0.symm)
noncomputable def z9s (x : Nat) : Bool := (z6r x).isSome
noncomputable def z79 (x : Nat) : Nat := ((z6r x).getD default)
theorem zed {x : Nat} {r : Nat} (h : z6r x = some r) : z9s x = true ∧ z79 x = r := by
  unfold z9s z79
  rw [h]
  exact ⟨rfl, rfl⟩
noncomputable def z6u {R : Type} (q0g : Nat) (q0n : List Nat) (q0i : Nat) (q0o : List Nat) (q0l : Nat) (q0p : List Nat) (q0x : Int) (k_ : Int → Option R) : Option R := (grd (z6b q0g (pF q0n 0 (muN q0g 1)) q0x) (br (ltI (z3m q0g (pF q0n 0 (muN q0g 1)) q0x) 0) (k_ (Int.negSucc 0)) (grd (z6b q0i (pF q0o 0 (muN q0i 1)) (z3m q0g (pF q0n 0 (muN q0g 1)) q0x)) (br (ltI (z3m q0i (pF q0o 0 (muN q0i 1)) (z3m q0g (pF q0n 0 (muN q0g 1)) q0x)) 0) (k_ (Int.negSucc 0)) (grd (z6b q0l (pF q0p 0 (muN q0l 1)) (z3m q0i (pF q0o 0 (muN q0i 1)) (z3m q0g (pF q0n 0 (muN q0g 1)) q0x))) (br (ltI (z3m q0l (pF q0p 0 (muN q0l 1)) (z3m q0i (pF q0o 0 (muN q0i 1)) (z3m q0g (pF q0n 0 (muN q0g 1)) q0x))) 0) (k_ (Int.negSucc 0)) (k_ (z3m q0l (pF q0p 0 (muN q0l 1)) (z3m q0i (pF q0o 0 (muN q0i 1)) (z3m q0g (pF q0n 0 (muN q0g 1)) q0x))))))))))
noncomputable def z6h (q0g : Nat) (q0n : List Nat) (q0i : Nat) (q0o : List Nat) (q0l : Nat) (q0p : List Nat) (q0x : Int) : Option (Int) := z6u q0g q0n q0i q0o q0l q0p q0x (fun c0_ => some c0_)
theorem zd6 {R R' : Type} (o : Option R → Option R') (h0 : o none = none) (q0g : Nat) (q0n : List Nat) (q0i : Nat) (q0o : List Nat) (q0l : Nat) (q0p : List Nat) (q0x : Int) (k_ : Int → Option R) : z6u q0g q0n q0i q0o q0l q0p q0x (fun c0_ => o (k_ c0_)) = o (z6u q0g q0n q0i q0o q0l q0p q0x k_) := by
  unfold z6u
  repeat (first | refine grd_out h0 ?_ | refine br_out ?_ ?_ | rfl | exact h0.symm)
noncomputable def z7x (q0g : Nat) (q0n : List Nat) (q0i : Nat) (q0o : List Nat) (q0l : Nat) (q0p : List Nat) (q0x : Int) : Bool := (z6h q0g q0n q0i q0o q0l q0p q0x).isSome
noncomputable def z7c (q0g : Nat) (q0n : List Nat) (q0i : Nat) (q0o : List Nat) (q0l : Nat) (q0p : List Nat) (q0x : Int) : Int := ((z6h q0g q0n q0i q0o q0l q0p q0x).getD default)
theorem ze8 {q0g : Nat} {q0n : List Nat} {q0i : Nat} {q0o : List Nat} {q0l : Nat} {q0p : List Nat} {q0x : Int} {r : Int} (h : z6h q0g q0n q0i q0o q0l q0p q0x = some r) : z7x q0g q0n q0i q0o q0l q0p q0x = true ∧ z7c q0g q0n q0i q0o q0l q0p q0x = r := by
  unfold z7x z7c
  rw [h]
  exact ⟨rfl, rfl⟩
noncomputable def z6j {R : Type} (x : Nat) (k_ : Nat → Bool → Option R) : Option R := (grd (z4b x) (br (bnot (z44 x)) (k_ 0 Bool.false) (k_ x Bool.true)))
noncomputable def z5k (x : Nat) : Option (Nat × Bool) := z6j x (fun c0_ c1_ => some (c0_, c1_))
theorem zd8 {R R' : Type} (o : Option R → Option R') (h0 : o none = none) (x : Nat) (k_ : Nat → Bool → Option R) : z6j x (fun c0_ c1_ => o (k_ c0_ c1_)) = o (z6j x k_) := by
  unfold z6j
  repeat (first | refine grd_out h0 ?_ | refine br_out ?_ ?_ | rfl | exact h0.symm)
noncomputable def z9y (x : Nat) : Bool := (z5k x).isSome
noncomputable def z96 (x : Nat) : Nat := ((z5k x).getD default).1
noncomputable def z94 (x : Nat) : Bool := ((z5k x).getD default).2
theorem ze6 {x : Nat} {r : Nat × Bool} (h : z5k x = some r) : z9y x = true ∧ z96 x = r.1 ∧ z94 x = r.2 := by
  unfold z9y z96 z94
  rw [h]
  exact ⟨rfl, rfl, rfl⟩
noncomputable def z7u {R : Type} (x : Nat) (k_ : Nat → Bool → Option R) : Option R := (grd (z5b x) (br (bnot (z52 x)) (k_ 0 Bool.false) (k_ x Bool.true)))
noncomputable def z6m (x : Nat) : Option (Nat × Bool) := z7u x (fun c0_ c1_ => some (c0_, c1_))
theorem zdw {R R' : Type} (o : Option R → Option R') (h0 : o none = none) (x : Nat) (k_ : Nat → Bool → Option R) : z7u x (fun c0_ c1_ => o (k_ c0_ c1_)) = o (z7u x k_) := by
  unfold z7u
  repeat (first | refine grd_out h0 ?_ | refine br_out ?_ ?_ | rfl | exact h0.symm)
noncomputable def z7v (x : Nat) : Bool := (z6m x).isSome
noncomputable def z6y (x : Nat) : Nat := ((z6m x).getD default).1
noncomputable def z72 (x : Nat) : Bool := ((z6m x).getD default).2
theorem zba {x : Nat} {r : Nat × Bool} (h : z6m x = some r) : z7v x = true ∧ z6y x = r.1 ∧ z72 x = r.2 := by
  unfold z7v z6y z72
  rw [h]
  exact ⟨rfl, rfl, rfl⟩
noncomputable def z74 {R : Type} (x : Nat) (k_ : Bool → Option R) : Option R := (grd (z4b x) (br (z44 x) (k_ (fcmp BinOp.geq FloatKind.f32 x 0)) (k_ Bool.false)))
noncomputable def z75 (x : Nat) : Option (Bool) := z74 x (fun c0_ => some c0_)
theorem zdo {R R' : Type} (o : Option R → Option R') (h0 : o none = none) (x : Nat) (k_ : Bool → Option R) : z74 x (fun c0_ => o (k_ c0_)) = o (z74 x k_) := by
  unfold z74
  repeat (first | refine grd_out h0 ?_ | refine br_out ?_ ?_ | rfl | exact h0.symm)
noncomputable def z5x (x : Nat) : Bool := (z75 x).isSome
noncomputable def z5l (x : Nat) : Bool := ((z75 x).getD default)
theorem zf5 {x : Nat} {r : Bool} (h : z75 x = some r) : z5x x = true ∧ z5l x = r := by
  unfold z5x z5l
  rw [h]
  exact ⟨rfl, rfl⟩
noncomputable def z7i {R : Type} (x : Nat) (k_ : Bool → Option R) : Option R := (grd (z5b x) (br (z52 x) (k_ (fcmp BinOp.geq FloatKind.f32 x 0)) (k_ Bool.false)))
noncomputable def z7s (x : Nat) : Option (Bool) := z7i x (fun c0_ => some c0_)
theorem zdq {R R' : Type} (o : Option R → Option R') (h0 : o none = none) (x : Nat) (k_ : Bool → Option R) : z7i x (fun c0_ => o (k_ c0_)) = o (z7i x k_) := by
  unfold z7i
  repeat (first | refine grd_out h0 ?_ | refine br_out ?_ ?_ | rfl | exact h0.symm)
noncomputable def zaw (x : Nat) : Bool := (z7s x).isSome
noncomputable def za6 (x : Nat) : Bool := ((z7s x).getD default)
theorem zf8 {x : Nat} {r : Bool} (h : z7s x = some r) : zaw x = true ∧ za6 x = r := by
  unfold zaw za6
  rw [h]
  exact ⟨rfl, rfl⟩
noncomputable def z5s {R : Type} (x : Nat) (k_ : Bool → Option R) : Option R := (grd (z5b x) (k_ (bnot (z52 x))))
noncomputable def z5r (x : Nat) : Option (Bool) := z5s x (fun c0_ => some c0_)
theorem zca {R R' : Type} (o : Option R → Option R') (h0 : o none = none) (x : Nat) (k_ : Bool → Option R) : z5s x (fun c0_ => o (k_ c0_)) = o (z5s x k_) := by
  unfold z5s
  repeat (first | refine grd_out h0 ?_ | refine br_out ?_ ?_ | rfl | exact h0.symm)
noncomputable def z8o (x : Nat) : Bool := (z5r x).isSome
noncomputable def z83 (x : Nat) : Bool := ((z5r x).getD default)
theorem zdj {x : Nat} {r : Bool} (h : z5r x = some r) : z8o x = true ∧ z83 x = r := by
  unfold z8o z83
  rw [h]
  exact ⟨rfl, rfl⟩
noncomputable def z4e {R : Type} (an : Nat) (q13 : Nat) (b0 : List Nat) (i : Int) (b1 : List Nat) (kn_ : Int → (List Nat) → Option R) (k0_ : Int → Bool → (List Nat) → Option R) : Option R := (br (ltI i (Int.ofNat an)) (grd (okIx i an) (grd (okIx i q13) (kn_ (addI IntKind.i64 i 1) (sF b1 (ixO 0 i 1) (gF b0 (ixO 0 i 1)))))) (k0_ i (ltI i (Int.ofNat an)) b1))
theorem zby {R R' : Type} (o : Option R → Option R') (h0 : o none = none) (an : Nat) (q13 : Nat) (b0 : List Nat) (i : Int) (b1 : List Nat) (kn_ : Int → (List Nat) → Option R) (k0_ : Int → Bool → (List Nat) → Option R) : z4e an q13 b0 i b1 (fun i' b1' => o (kn_ i' b1')) (fun c0_ c1_ c2_ => o (k0_ c0_ c1_ c2_)) = o (z4e an q13 b0 i b1 kn_ k0_) := by
  unfold z4e
  repeat (first | refine grd_out h0 ?_ | refine br_out ?_ ?_ | rfl | exact h0.symm)
noncomputable def z3x (an : Nat) (q13 : Nat) (b0 : List Nat) : Nat → Int → (List Nat) → Option ((Int × Bool × (List Nat)))
  | 0, _, _ => none
  | n + 1, i, b1 => z4e an q13 b0  i b1  (fun i' b1' => z3x an q13 b0 n i' b1') (fun c0_ c1_ c2_ => some (c0_, c1_, c2_))
theorem za5 (an : Nat) (q13 : Nat) (b0 : List Nat) (n : Nat) (i : Int) (b1 : List Nat) : z3x an q13 b0 (n + 1) i b1 = z4e an q13 b0  i b1  (fun i' b1' => z3x an q13 b0 n i' b1') (fun c0_ c1_ c2_ => some (c0_, c1_, c2_)) := rfl
noncomputable def z5y (an : Nat) (q13 : Nat) (b0 : List Nat) (i : Int) (b1 : List Nat) : Bool := (z3x an q13 b0 big i b1).isSome
noncomputable def z89 (an : Nat) (q13 : Nat) (b0 : List Nat) (i : Int) (b1 : List Nat) : Int := ((z3x an q13 b0 big i b1).getD default).1
noncomputable def z87 (an : Nat) (q13 : Nat) (b0 : List Nat) (i : Int) (b1 : List Nat) : Bool := ((z3x an q13 b0 big i b1).getD default).2.1
noncomputable def z56 (an : Nat) (q13 : Nat) (b0 : List Nat) (i : Int) (b1 : List Nat) : List Nat := ((z3x an q13 b0 big i b1).getD default).2.2
theorem zcd {an : Nat} {q13 : Nat} {b0 : List Nat} {i : Int} {b1 : List Nat} {m : Nat} {r : Int × Bool × (List Nat)} (hm : m = big) (h : z3x an q13 b0 m i b1 = some r) : z5y an q13 b0 i b1 = true ∧ z89 an q13 b0 i b1 = r.1 ∧ z87 an q13 b0 i b1 = r.2.1 ∧ z56 an q13 b0 i b1 = r.2.2 := by
  subst hm
  unfold z5y z89 z87 z56
  rw [h]
  exact ⟨rfl, rfl, rfl, rfl⟩
noncomputable def z60 {R : Type} (a_n : Nat) (a : List Nat) (k_ : Nat → (List Nat) → Option R) : Option R := (grd (okMk (Int.ofNat a_n) (Int.ofNat a_n) 4) (grd (z5y a_n (toN (Int.ofNat a_n)) a 0 (rF (muN (toN (Int.ofNat a_n)) 1))) (k_ (toN (Int.ofNat a_n)) (z56 a_n (toN (Int.ofNat a_n)) a 0 (rF (muN (toN (Int.ofNat a_n)) 1))))))
noncomputable def z59 (a_n : Nat) (a : List Nat) : Option (Nat × (List Nat)) := z60 a_n a (fun c0_ c1_ => some (c0_, c1_))
theorem zcl {R R' : Type} (o : Option R → Option R') (h0 : o none = none) (a_n : Nat) (a : List Nat) (k_ : Nat → (List Nat) → Option R) : z60 a_n a (fun c0_ c1_ => o (k_ c0_ c1_)) = o (z60 a_n a k_) := by
  unfold z60
  repeat (first | refine grd_out h0 ?_ | refine br_out ?_ ?_ | rfl | exact h0.symm)
noncomputable def z6a (a_n : Nat) (a : List Nat) : Bool := (z59 a_n a).isSome
noncomputable def z5q (a_n : Nat) (a : List Nat) : Nat := ((z59 a_n a).getD default).1
noncomputable def z5n (a_n : Nat) (a : List Nat) : List Nat := ((z59 a_n a).getD default).2
theorem zae {a_n : Nat} {a : List Nat} {r : Nat × (List Nat)} (h : z59 a_n a = some r) : z6a a_n a = true ∧ z5q a_n a = r.1 ∧ z5n a_n a = r.2 := by
  unfold z6a z5q z5n
  rw [h]
  exact ⟨rfl, rfl, rfl⟩
noncomputable def z63 {R : Type} (x : Nat) (k_ : Bool → Option R) : Option R := (grd (zaw x) (k_ (bnot (za6 x))))
noncomputable def z67 (x : Nat) : Option (Bool) := z63 x (fun c0_ => some c0_)
theorem zct {R R' : Type} (o : Option R → Option R') (h0 : o none = none) (x : Nat) (k_ : Bool → Option R) : z63 x (fun c0_ => o (k_ c0_)) = o (z63 x k_) := by
  unfold z63
  repeat (first | refine grd_out h0 ?_ | refine br_out ?_ ?_ | rfl | exact h0.symm)
noncomputable def z97 (x : Nat) : Bool := (z67 x).isSome
noncomputable def z8n (x : Nat) : Bool := ((z67 x).getD default)
theorem zdu {x : Nat} {r : Bool} (h : z67 x = some r) : z97 x = true ∧ z8n x = r := by
  unfold z97 z8n
  rw [h]
  exact ⟨rfl, rfl⟩
noncomputable def z4f {R : Type} (an : Nat) (bn : Nat) (b0 : List Nat) (b1 : List Nat) (i : Int) (kn_ : Int → Option R) (k0_ : Unit → Option R) (k1_ : Int → Bool → Option R) : Option R := (br (ltI i (Int.ofNat an)) (grd (okIx i an) (grd (okIx i bn) (grd (z80 (fcvV FloatKind.f32 FloatKind.f64 (gF b0 (ixO 0 i 1))) (fcvV FloatKind.f32 FloatKind.f64 (gF b1 (ixO 0 i 1)))) (br (bnot (z7d (fcvV FloatKind.f32 FloatKind.f64 (gF b0 (ixO 0 i 1))) (fcvV FloatKind.f32 FloatKind.f64 (gF b1 (ixO 0 i 1))))) (k0_ ()) (kn_ (addI IntKind.i64 i 1)))))) (k1_ i (ltI i (Int.ofNat an))))
theorem zbv {R R' : Type} (o : Option R → Option R') (h0 : o none = none) (an : Nat) (bn : Nat) (b0 : List Nat) (b1 : List Nat) (i : Int) (kn_ : Int → Option R) (k0_ : Unit → Option R) (k1_ : Int → Bool → Option R) : z4f an bn b0 b1 i (fun i' => o (kn_ i')) (fun _ => o (k0_ ())) (fun c0_ c1_ => o (k1_ c0_ c1_)) = o (z4f an bn b0 b1 i kn_ k0_ k1_) := by
  unfold z4f
  repeat (first | refine grd_out h0 ?_ | refine br_out ?_ ?_ | rfl | exact h0.symm)
noncomputable def z3w (an : Nat) (bn : Nat) (b0 : List Nat) (b1 : List Nat) : Nat → Int → Option ((Unit) ⊕ (Int × Bool))
  | 0, _ => none
  | n + 1, i => z4f an bn b0 b1  i  (fun i' => z3w an bn b0 b1 n i') (fun _ => some (Sum.inl ())) (fun c0_ c1_ => some (Sum.inr (c0_, c1_)))
theorem za9 (an : Nat) (bn : Nat) (b0 : List Nat) (b1 : List Nat) (n : Nat) (i : Int) : z3w an bn b0 b1 (n + 1) i = z4f an bn b0 b1  i  (fun i' => z3w an bn b0 b1 n i') (fun _ => some (Sum.inl ())) (fun c0_ c1_ => some (Sum.inr (c0_, c1_))) := rfl
noncomputable def z7f (an : Nat) (bn : Nat) (b0 : List Nat) (b1 : List Nat) (i : Int) : Bool := (z3w an bn b0 b1 big i).isSome
noncomputable def z76 (an : Nat) (bn : Nat) (b0 : List Nat) (b1 : List Nat) (i : Int) : Bool := oL (z3w an bn b0 b1 big i)
noncomputable def z88 (an : Nat) (bn : Nat) (b0 : List Nat) (b1 : List Nat) (i : Int) : Int := ((tR (z3w an bn b0 b1 big i)).getD default).1
noncomputable def z8b (an : Nat) (bn : Nat) (b0 : List Nat) (b1 : List Nat) (i : Int) : Bool := ((tR (z3w an bn b0 b1 big i)).getD default).2
theorem zch {an : Nat} {bn : Nat} {b0 : List Nat} {b1 : List Nat} {i : Int} {m : Nat} {r : Int × Bool} (hm : m = big) (h : z3w an bn b0 b1 m i = some (Sum.inr r)) : z7f an bn b0 b1 i = true ∧ z76 an bn b0 b1 i = false ∧ z88 an bn b0 b1 i = r.1 ∧ z8b an bn b0 b1 i = r.2 := by
  subst hm
  unfold z7f z76 z88 z8b
  rw [h]
  exact ⟨rfl, rfl, rfl, rfl⟩
noncomputable def z6q {R : Type} (q0g : Nat) (q0n : List Nat) (q0i : Nat) (q0o : List Nat) (q0l : Nat) (q0p : List Nat) (k_ : Nat → Nat → Nat → (List Nat) → (List Nat) → (List Nat) → Option R) : Option R := (grd (z6a q0g (pF q0n 0 (muN q0g 1))) (grd (z6a q0i (pF q0o 0 (muN q0i 1))) (grd (z6a q0l (pF q0p 0 (muN q0l 1))) (k_ (z5q q0g (pF q0n 0 (muN q0g 1))) (z5q q0i (pF q0o 0 (muN q0i 1))) (z5q q0l (pF q0p 0 (muN q0l 1))) (z5n q0g (pF q0n 0 (muN q0g 1))) (z5n q0i (pF q0o 0 (muN q0i 1))) (z5n q0l (pF q0p 0 (muN q0l 1)))))))
noncomputable def z4l (q0g : Nat) (q0n : List Nat) (q0i : Nat) (q0o : List Nat) (q0l : Nat) (q0p : List Nat) : Option (Nat × Nat × Nat × (List Nat) × (List Nat) × (List Nat)) := z6q q0g q0n q0i q0o q0l q0p (fun c0_ c1_ c2_ c3_ c4_ c5_ => some (c0_, c1_, c2_, c3_, c4_, c5_))
theorem zcz {R R' : Type} (o : Option R → Option R') (h0 : o none = none) (q0g : Nat) (q0n : List Nat) (q0i : Nat) (q0o : List Nat) (q0l : Nat) (q0p : List Nat) (k_ : Nat → Nat → Nat → (List Nat) → (List Nat) → (List Nat) → Option R) : z6q q0g q0n q0i q0o q0l q0p (fun c0_ c1_ c2_ c3_ c4_ c5_ => o (k_ c0_ c1_ c2_ c3_ c4_ c5_)) = o (z6q q0g q0n q0i q0o q0l q0p k_) := by
  unfold z6q
  repeat (first | refine grd_out h0 ?_ | refine br_out ?_ ?_ | rfl | exact h0.symm)
noncomputable def z5m (q0g : Nat) (q0n : List Nat) (q0i : Nat) (q0o : List Nat) (q0l : Nat) (q0p : List Nat) : Bool := (z4l q0g q0n q0i q0o q0l q0p).isSome
noncomputable def z2e (q0g : Nat) (q0n : List Nat) (q0i : Nat) (q0o : List Nat) (q0l : Nat) (q0p : List Nat) : Nat := ((z4l q0g q0n q0i q0o q0l q0p).getD default).1
noncomputable def z2f (q0g : Nat) (q0n : List Nat) (q0i : Nat) (q0o : List Nat) (q0l : Nat) (q0p : List Nat) : Nat := ((z4l q0g q0n q0i q0o q0l q0p).getD default).2.1
noncomputable def z2h (q0g : Nat) (q0n : List Nat) (q0i : Nat) (q0o : List Nat) (q0l : Nat) (q0p : List Nat) : Nat := ((z4l q0g q0n q0i q0o q0l q0p).getD default).2.2.1
noncomputable def z3k (q0g : Nat) (q0n : List Nat) (q0i : Nat) (q0o : List Nat) (q0l : Nat) (q0p : List Nat) : List Nat := ((z4l q0g q0n q0i q0o q0l q0p).getD default).2.2.2.1
noncomputable def z3j (q0g : Nat) (q0n : List Nat) (q0i : Nat) (q0o : List Nat) (q0l : Nat) (q0p : List Nat) : List Nat := ((z4l q0g q0n q0i q0o q0l q0p).getD default).2.2.2.2.1
noncomputable def z3l (q0g : Nat) (q0n : List Nat) (q0i : Nat) (q0o : List Nat) (q0l : Nat) (q0p : List Nat) : List Nat := ((z4l q0g q0n q0i q0o q0l q0p).getD default).2.2.2.2.2
theorem zeh {q0g : Nat} {q0n : List Nat} {q0i : Nat} {q0o : List Nat} {q0l : Nat} {q0p : List Nat} {r : Nat × Nat × Nat × (List Nat) × (List Nat) × (List Nat)} (h : z4l q0g q0n q0i q0o q0l q0p = some r) : z5m q0g q0n q0i q0o q0l q0p = true ∧ z2e q0g q0n q0i q0o q0l q0p = r.1 ∧ z2f q0g q0n q0i q0o q0l q0p = r.2.1 ∧ z2h q0g q0n q0i q0o q0l q0p = r.2.2.1 ∧ z3k q0g q0n q0i q0o q0l q0p = r.2.2.2.1 ∧ z3j q0g q0n q0i q0o q0l q0p = r.2.2.2.2.1 ∧ z3l q0g q0n q0i q0o q0l q0p = r.2.2.2.2.2 := by
  unfold z5m z2e z2f z2h z3k z3j z3l
  rw [h]
  exact ⟨rfl, rfl, rfl, rfl, rfl, rfl, rfl⟩
noncomputable def z64 {R : Type} (a_n : Nat) (a : List Nat) (b_n : Nat) (b : List Nat) (k_ : Bool → Option R) : Option R := (br (neI (Int.ofNat a_n) (Int.ofNat b_n)) (k_ Bool.false) (grd (z7f a_n b_n a b 0) (br (z76 a_n b_n a b 0) (k_ Bool.false) (k_ Bool.true))))
noncomputable def z5z (a_n : Nat) (a : List Nat) (b_n : Nat) (b : List Nat) : Option (Bool) := z64 a_n a b_n b (fun c0_ => some c0_)
theorem zcp {R R' : Type} (o : Option R → Option R') (h0 : o none = none) (a_n : Nat) (a : List Nat) (b_n : Nat) (b : List Nat) (k_ : Bool → Option R) : z64 a_n a b_n b (fun c0_ => o (k_ c0_)) = o (z64 a_n a b_n b k_) := by
  unfold z64
  repeat (first | refine grd_out h0 ?_ | refine br_out ?_ ?_ | rfl | exact h0.symm)
noncomputable def z61 (a_n : Nat) (a : List Nat) (b_n : Nat) (b : List Nat) : Bool := (z5z a_n a b_n b).isSome
noncomputable def z5p (a_n : Nat) (a : List Nat) (b_n : Nat) (b : List Nat) : Bool := ((z5z a_n a b_n b).getD default)
theorem zal {a_n : Nat} {a : List Nat} {b_n : Nat} {b : List Nat} {r : Bool} (h : z5z a_n a b_n b = some r) : z61 a_n a b_n b = true ∧ z5p a_n a b_n b = r := by
  unfold z61 z5p
  rw [h]
  exact ⟨rfl, rfl⟩
noncomputable def z4y {R : Type} (t3 : Int) (b0 : List Nat) (b1 : List Nat) (b2 : List Nat) (q0m : Nat) (q0s : Nat) (q0r : Nat) (t4 : Int) (kn_ : Int → Option R) (k0_ : Unit → Option R) (k1_ : Int → Bool → Option R) : Option R := (br (ltI t4 t3) (grd (okIx t4 q0m) (br (fcmp BinOp.geq FloatKind.f32 (gF b0 (ixO 0 t4 1)) 3204448256) (grd (okIx t4 q0m) (br (bnot (fcmp BinOp.leq FloatKind.f32 (gF b0 (ixO 0 t4 1)) 1056964608)) (k0_ ()) (br (ltI 0 t4) (grd (okIx t4 q0m) (grd (okIx (subI IntKind.i64 t4 1) q0m) (br (fcmp BinOp.leq FloatKind.f32 (gF b0 (ixO 0 t4 1)) (gF b0 (ixO 0 (subI IntKind.i64 t4 1) 1))) (k0_ ()) (grd (okIx t4 q0s) (grd (z4b (gF b1 (ixO 0 t4 1))) (br (bnot (z44 (gF b1 (ixO 0 t4 1)))) (k0_ ()) (grd (okIx t4 q0r) (grd (z5x (gF b2 (ixO 0 t4 1))) (br (bnot (z5l (gF b2 (ixO 0 t4 1)))) (k0_ ()) (kn_ (addI IntKind.i64 t4 1))))))))))) (grd (okIx t4 q0s) (grd (z4b (gF b1 (ixO 0 t4 1))) (br (bnot (z44 (gF b1 (ixO 0 t4 1)))) (k0_ ()) (grd (okIx t4 q0r) (grd (z5x (gF b2 (ixO 0 t4 1))) (br (bnot (z5l (gF b2 (ixO 0 t4 1)))) (k0_ ()) (kn_ (addI IntKind.i64 t4 1))))))))))) (br (bnot Bool.false) (k0_ ()) (br (ltI 0 t4) (grd (okIx t4 q0m) (grd (okIx (subI IntKind.i64 t4 1) q0m) (br (fcmp BinOp.leq FloatKind.f32 (gF b0 (ixO 0 t4 1)) (gF b0 (ixO 0 (subI IntKind.i64 t4 1) 1))) (k0_ ()) (grd (okIx t4 q0s) (grd (z4b (gF b1 (ixO 0 t4 1))) (br (bnot (z44 (gF b1 (ixO 0 t4 1)))) (k0_ ()) (grd (okIx t4 q0r) (grd (z5x (gF b2 (ixO 0 t4 1))) (br (bnot (z5l (gF b2 (ixO 0 t4 1)))) (k0_ ()) (kn_ (addI IntKind.i64 t4 1))))))))))) (grd (okIx t4 q0s) (grd (z4b (gF b1 (ixO 0 t4 1))) (br (bnot (z44 (gF b1 (ixO 0 t4 1)))) (k0_ ()) (grd (okIx t4 q0r) (grd (z5x (gF b2 (ixO 0 t4 1))) (br (bnot (z5l (gF b2 (ixO 0 t4 1)))) (k0_ ()) (kn_ (addI IntKind.i64 t4 1)))))))))))) (k1_ t4 (ltI t4 t3)))
theorem zdp {R R' : Type} (o : Option R → Option R') (h0 : o none = none) (t3 : Int) (b0 : List Nat) (b1 : List Nat) (b2 : List Nat) (q0m : Nat) (q0s : Nat) (q0r : Nat) (t4 : Int) (kn_ : Int → Option R) (k0_ : Unit → Option R) (k1_ : Int → Bool → Option R) : z4y t3 b0 b1 b2 q0m q0s q0r t4 (fun t4' => o (kn_ t4')) (fun _ => o (k0_ ())) (fun c0_ c1_ => o (k1_ c0_ c1_)) = o (z4y t3 b0 b1 b2 q0m q0s q0r t4 kn_ k0_ k1_) := by
  unfold z4y
  repeat (first | refine grd_out h0 ?_ | refine br_out ?_ ?_ | rfl | exact h0.symm)
noncomputable def z49 (t3 : Int) (b0 : List Nat) (b1 : List Nat) (b2 : List Nat) (q0m : Nat) (q0s : Nat) (q0r : Nat) : Nat → Int → Option ((Unit) ⊕ (Int × Bool))
  | 0, _ => none
  | n + 1, t4 => z4y t3 b0 b1 b2 q0m q0s q0r  t4  (fun t4' => z49 t3 b0 b1 b2 q0m q0s q0r n t4') (fun _ => some (Sum.inl ())) (fun c0_ c1_ => some (Sum.inr (c0_, c1_)))
theorem zb7 (t3 : Int) (b0 : List Nat) (b1 : List Nat) (b2 : List Nat) (q0m : Nat) (q0s : Nat) (q0r : Nat) (n : Nat) (t4 : Int) : z49 t3 b0 b1 b2 q0m q0s q0r (n + 1) t4 = z4y t3 b0 b1 b2 q0m q0s q0r  t4  (fun t4' => z49 t3 b0 b1 b2 q0m q0s q0r n t4') (fun _ => some (Sum.inl ())) (fun c0_ c1_ => some (Sum.inr (c0_, c1_))) := rfl
noncomputable def z5d (t3 : Int) (b0 : List Nat) (b1 : List Nat) (b2 : List Nat) (q0m : Nat) (q0s : Nat) (q0r : Nat) (t4 : Int) : Bool := (z49 t3 b0 b1 b2 q0m q0s q0r big t4).isSome
noncomputable def z53 (t3 : Int) (b0 : List Nat) (b1 : List Nat) (b2 : List Nat) (q0m : Nat) (q0s : Nat) (q0r : Nat) (t4 : Int) : Bool := oL (z49 t3 b0 b1 b2 q0m q0s q0r big t4)
noncomputable def zag (t3 : Int) (b0 : List Nat) (b1 : List Nat) (b2 : List Nat) (q0m : Nat) (q0s : Nat) (q0r : Nat) (t4 : Int) : Int := ((tR (z49 t3 b0 b1 b2 q0m q0s q0r big t4)).getD default).1
noncomputable def zai (t3 : Int) (b0 : List Nat) (b1 : List Nat) (b2 : List Nat) (q0m : Nat) (q0s : Nat) (q0r : Nat) (t4 : Int) : Bool := ((tR (z49 t3 b0 b1 b2 q0m q0s q0r big t4)).getD default).2
theorem zea {t3 : Int} {b0 : List Nat} {b1 : List Nat} {b2 : List Nat} {q0m : Nat} {q0s : Nat} {q0r : Nat} {t4 : Int} {m : Nat} {r : Unit} (hm : m = big) (h : z49 t3 b0 b1 b2 q0m q0s q0r m t4 = some (Sum.inl r)) : z5d t3 b0 b1 b2 q0m q0s q0r t4 = true ∧ z53 t3 b0 b1 b2 q0m q0s q0r t4 = true := by
  subst hm
  unfold z5d z53
  rw [h]
  exact ⟨rfl, rfl⟩
theorem zek {t3 : Int} {b0 : List Nat} {b1 : List Nat} {b2 : List Nat} {q0m : Nat} {q0s : Nat} {q0r : Nat} {t4 : Int} {m : Nat} {r : Int × Bool} (hm : m = big) (h : z49 t3 b0 b1 b2 q0m q0s q0r m t4 = some (Sum.inr r)) : z5d t3 b0 b1 b2 q0m q0s q0r t4 = true ∧ z53 t3 b0 b1 b2 q0m q0s q0r t4 = false ∧ zag t3 b0 b1 b2 q0m q0s q0r t4 = r.1 ∧ zai t3 b0 b1 b2 q0m q0s q0r t4 = r.2 := by
  subst hm
  unfold z5d z53 zag zai
  rw [h]
  exact ⟨rfl, rfl, rfl, rfl⟩
noncomputable def z2t {R : Type} (sn : Nat) (t7 : Int) (b0 : List Nat) (t8 : Int) (kn_ : Int → Option R) (k0_ : Int → Option R) (k1_ : Int → Bool → Option R) : Option R := (br (ltI t8 t7) (grd (okIx t8 sn) (grd (z8o (gF b0 (ixO 0 t8 1))) (br (z83 (gF b0 (ixO 0 t8 1))) (k0_ t8) (kn_ (addI IntKind.i64 t8 1))))) (k1_ t8 (ltI t8 t7)))
theorem z8c {R R' : Type} (o : Option R → Option R') (h0 : o none = none) (sn : Nat) (t7 : Int) (b0 : List Nat) (t8 : Int) (kn_ : Int → Option R) (k0_ : Int → Option R) (k1_ : Int → Bool → Option R) : z2t sn t7 b0 t8 (fun t8' => o (kn_ t8')) (fun c0_ => o (k0_ c0_)) (fun c0_ c1_ => o (k1_ c0_ c1_)) = o (z2t sn t7 b0 t8 kn_ k0_ k1_) := by
  unfold z2t
  repeat (first | refine grd_out h0 ?_ | refine br_out ?_ ?_ | rfl | exact h0.symm)
noncomputable def z19 (sn : Nat) (t7 : Int) (b0 : List Nat) : Nat → Int → Option ((Int) ⊕ (Int × Bool))
  | 0, _ => none
  | n + 1, t8 => z2t sn t7 b0  t8  (fun t8' => z19 sn t7 b0 n t8') (fun c0_ => some (Sum.inl c0_)) (fun c0_ c1_ => some (Sum.inr (c0_, c1_)))
theorem z54 (sn : Nat) (t7 : Int) (b0 : List Nat) (n : Nat) (t8 : Int) : z19 sn t7 b0 (n + 1) t8 = z2t sn t7 b0  t8  (fun t8' => z19 sn t7 b0 n t8') (fun c0_ => some (Sum.inl c0_)) (fun c0_ c1_ => some (Sum.inr (c0_, c1_))) := rfl
noncomputable def z3h (sn : Nat) (t7 : Int) (b0 : List Nat) (t8 : Int) : Bool := (z19 sn t7 b0 big t8).isSome
noncomputable def z3e (sn : Nat) (t7 : Int) (b0 : List Nat) (t8 : Int) : Bool := oL (z19 sn t7 b0 big t8)
noncomputable def z42 (sn : Nat) (t7 : Int) (b0 : List Nat) (t8 : Int) : Int := ((tL (z19 sn t7 b0 big t8)).getD default)
noncomputable def z4o (sn : Nat) (t7 : Int) (b0 : List Nat) (t8 : Int) : Int := ((tR (z19 sn t7 b0 big t8)).getD default).1
noncomputable def z4q (sn : Nat) (t7 : Int) (b0 : List Nat) (t8 : Int) : Bool := ((tR (z19 sn t7 b0 big t8)).getD default).2
theorem z8w {sn : Nat} {t7 : Int} {b0 : List Nat} {t8 : Int} {m : Nat} {r : Int} (hm : m = big) (h : z19 sn t7 b0 m t8 = some (Sum.inl r)) : z3h sn t7 b0 t8 = true ∧ z3e sn t7 b0 t8 = true ∧ z42 sn t7 b0 t8 = r := by
  subst hm
  unfold z3h z3e z42
  rw [h]
  exact ⟨rfl, rfl, rfl⟩
theorem z8u {sn : Nat} {t7 : Int} {b0 : List Nat} {t8 : Int} {m : Nat} {r : Int × Bool} (hm : m = big) (h : z19 sn t7 b0 m t8 = some (Sum.inr r)) : z3h sn t7 b0 t8 = true ∧ z3e sn t7 b0 t8 = false ∧ z4o sn t7 b0 t8 = r.1 ∧ z4q sn t7 b0 t8 = r.2 := by
  subst hm
  unfold z3h z3e z4o z4q
  rw [h]
  exact ⟨rfl, rfl, rfl, rfl⟩
noncomputable def z6i {R : Type} (q0g : Nat) (q0n : List Nat) (q0i : Nat) (q0o : List Nat) (q0l : Nat) (q0p : List Nat) (q0u : Nat) (q0y : List Nat) (q0v : Nat) (q11 : List Nat) (q0w : Nat) (q12 : List Nat) (k_ : Bool → Option R) : Option R := (grd (z61 q0g (pF q0n 0 (muN q0g 1)) q0u (pF q0y 0 (muN q0u 1))) (br (bnot (z5p q0g (pF q0n 0 (muN q0g 1)) q0u (pF q0y 0 (muN q0u 1)))) (k_ Bool.false) (grd (z61 q0i (pF q0o 0 (muN q0i 1)) q0v (pF q11 0 (muN q0v 1))) (br (bnot (z5p q0i (pF q0o 0 (muN q0i 1)) q0v (pF q11 0 (muN q0v 1)))) (k_ Bool.false) (grd (z61 q0l (pF q0p 0 (muN q0l 1)) q0w (pF q12 0 (muN q0w 1))) (br (bnot (z5p q0l (pF q0p 0 (muN q0l 1)) q0w (pF q12 0 (muN q0w 1)))) (k_ Bool.false) (k_ Bool.true)))))))
noncomputable def z6w (q0g : Nat) (q0n : List Nat) (q0i : Nat) (q0o : List Nat) (q0l : Nat) (q0p : List Nat) (q0u : Nat) (q0y : List Nat) (q0v : Nat) (q11 : List Nat) (q0w : Nat) (q12 : List Nat) : Option (Bool) := z6i q0g q0n q0i q0o q0l q0p q0u q0y q0v q11 q0w q12 (fun c0_ => some c0_)
theorem zdb {R R' : Type} (o : Option R → Option R') (h0 : o none = none) (q0g : Nat) (q0n : List Nat) (q0i : Nat) (q0o : List Nat) (q0l : Nat) (q0p : List Nat) (q0u : Nat) (q0y : List Nat) (q0v : Nat) (q11 : List Nat) (q0w : Nat) (q12 : List Nat) (k_ : Bool → Option R) : z6i q0g q0n q0i q0o q0l q0p q0u q0y q0v q11 q0w q12 (fun c0_ => o (k_ c0_)) = o (z6i q0g q0n q0i q0o q0l q0p q0u q0y q0v q11 q0w q12 k_) := by
  unfold z6i
  repeat (first | refine grd_out h0 ?_ | refine br_out ?_ ?_ | rfl | exact h0.symm)
noncomputable def z82 (q0g : Nat) (q0n : List Nat) (q0i : Nat) (q0o : List Nat) (q0l : Nat) (q0p : List Nat) (q0u : Nat) (q0y : List Nat) (q0v : Nat) (q11 : List Nat) (q0w : Nat) (q12 : List Nat) : Bool := (z6w q0g q0n q0i q0o q0l q0p q0u q0y q0v q11 q0w q12).isSome
noncomputable def z7b (q0g : Nat) (q0n : List Nat) (q0i : Nat) (q0o : List Nat) (q0l : Nat) (q0p : List Nat) (q0u : Nat) (q0y : List Nat) (q0v : Nat) (q11 : List Nat) (q0w : Nat) (q12 : List Nat) : Bool := ((z6w q0g q0n q0i q0o q0l q0p q0u q0y q0v q11 q0w q12).getD default)
theorem zei {q0g : Nat} {q0n : List Nat} {q0i : Nat} {q0o : List Nat} {q0l : Nat} {q0p : List Nat} {q0u : Nat} {q0y : List Nat} {q0v : Nat} {q11 : List Nat} {q0w : Nat} {q12 : List Nat} {r : Bool} (h : z6w q0g q0n q0i q0o q0l q0p q0u q0y q0v q11 q0w q12 = some r) : z82 q0g q0n q0i q0o q0l q0p q0u q0y q0v q11 q0w q12 = true ∧ z7b q0g q0n q0i q0o q0l q0p q0u q0y q0v q11 q0w q12 = r := by
  unfold z82 z7b
  rw [h]
  exact ⟨rfl, rfl⟩
noncomputable def z9k {R : Type} (q00 : Nat) (q01 : List Nat) (q0c : Nat) (q0d : List Nat) (q0b : Nat) (q0e : List Nat) (k_ : Bool → Option R) : Option R := (br (ltI (Int.ofNat q00) 2) (k_ Bool.false) (br (ltI 24 (Int.ofNat q00)) (k_ Bool.false) (br (neI (Int.ofNat q0c) (Int.ofNat q00)) (k_ Bool.false) (br (neI (Int.ofNat q0b) (Int.ofNat q00)) (k_ Bool.false) (grd (z5d (Int.ofNat q00) q01 q0d q0e q00 q0c q0b 0) (br (z53 (Int.ofNat q00) q01 q0d q0e q00 q0c q0b 0) (k_ Bool.false) (k_ Bool.true)))))))
noncomputable def z9e (q00 : Nat) (q01 : List Nat) (q0c : Nat) (q0d : List Nat) (q0b : Nat) (q0e : List Nat) : Option (Bool) := z9k q00 q01 q0c q0d q0b q0e (fun c0_ => some c0_)
theorem zez {R R' : Type} (o : Option R → Option R') (h0 : o none = none) (q00 : Nat) (q01 : List Nat) (q0c : Nat) (q0d : List Nat) (q0b : Nat) (q0e : List Nat) (k_ : Bool → Option R) : z9k q00 q01 q0c q0d q0b q0e (fun c0_ => o (k_ c0_)) = o (z9k q00 q01 q0c q0d q0b q0e k_) := by
  unfold z9k
  repeat (first | refine grd_out h0 ?_ | refine br_out ?_ ?_ | rfl | exact h0.symm)
noncomputable def zb6 (q00 : Nat) (q01 : List Nat) (q0c : Nat) (q0d : List Nat) (q0b : Nat) (q0e : List Nat) : Bool := (z9e q00 q01 q0c q0d q0b q0e).isSome
noncomputable def zb3 (q00 : Nat) (q01 : List Nat) (q0c : Nat) (q0d : List Nat) (q0b : Nat) (q0e : List Nat) : Bool := ((z9e q00 q01 q0c q0d q0b q0e).getD default)
theorem zfv {q00 : Nat} {q01 : List Nat} {q0c : Nat} {q0d : List Nat} {q0b : Nat} {q0e : List Nat} {r : Bool} (h : z9e q00 q01 q0c q0d q0b q0e = some r) : zb6 q00 q01 q0c q0d q0b q0e = true ∧ zb3 q00 q01 q0c q0d q0b q0e = r := by
  unfold zb6 zb3
  rw [h]
  exact ⟨rfl, rfl⟩
noncomputable def z3q {R : Type} (s_n : Nat) (s : List Nat) (k_ : Int → Option R) : Option R := (grd (z3h s_n (Int.ofNat s_n) s 0) (br (z3e s_n (Int.ofNat s_n) s 0) (k_ (z42 s_n (Int.ofNat s_n) s 0)) (k_ (Int.negSucc 0))))
noncomputable def z3r (s_n : Nat) (s : List Nat) : Option (Int) := z3q s_n s (fun c0_ => some c0_)
theorem z8z {R R' : Type} (o : Option R → Option R') (h0 : o none = none) (s_n : Nat) (s : List Nat) (k_ : Int → Option R) : z3q s_n s (fun c0_ => o (k_ c0_)) = o (z3q s_n s k_) := by
  unfold z3q
  repeat (first | refine grd_out h0 ?_ | refine br_out ?_ ?_ | rfl | exact h0.symm)
noncomputable def z4i (s_n : Nat) (s : List Nat) : Bool := (z3r s_n s).isSome
noncomputable def z4g (s_n : Nat) (s : List Nat) : Int := ((z3r s_n s).getD default)
theorem z9u {s_n : Nat} {s : List Nat} {r : Int} (h : z3r s_n s = some r) : z4i s_n s = true ∧ z4g s_n s = r := by
  unfold z4i z4g
  rw [h]
  exact ⟨rfl, rfl⟩
noncomputable def z2u {R : Type} (sn : Nat) (t7 : Int) (b0 : List Nat) (t8 : Int) (kn_ : Int → Option R) (k0_ : Int → Option R) (k1_ : Int → Bool → Option R) : Option R := (br (ltI t8 t7) (grd (okIx t8 sn) (grd (z97 (gF b0 (ixO 0 t8 1))) (br (z8n (gF b0 (ixO 0 t8 1))) (k0_ t8) (kn_ (addI IntKind.i64 t8 1))))) (k1_ t8 (ltI t8 t7)))
theorem z8k {R R' : Type} (o : Option R → Option R') (h0 : o none = none) (sn : Nat) (t7 : Int) (b0 : List Nat) (t8 : Int) (kn_ : Int → Option R) (k0_ : Int → Option R) (k1_ : Int → Bool → Option R) : z2u sn t7 b0 t8 (fun t8' => o (kn_ t8')) (fun c0_ => o (k0_ c0_)) (fun c0_ c1_ => o (k1_ c0_ c1_)) = o (z2u sn t7 b0 t8 kn_ k0_ k1_) := by
  unfold z2u
  repeat (first | refine grd_out h0 ?_ | refine br_out ?_ ?_ | rfl | exact h0.symm)
noncomputable def z1e (sn : Nat) (t7 : Int) (b0 : List Nat) : Nat → Int → Option ((Int) ⊕ (Int × Bool))
  | 0, _ => none
  | n + 1, t8 => z2u sn t7 b0  t8  (fun t8' => z1e sn t7 b0 n t8') (fun c0_ => some (Sum.inl c0_)) (fun c0_ c1_ => some (Sum.inr (c0_, c1_)))
theorem z58 (sn : Nat) (t7 : Int) (b0 : List Nat) (n : Nat) (t8 : Int) : z1e sn t7 b0 (n + 1) t8 = z2u sn t7 b0  t8  (fun t8' => z1e sn t7 b0 n t8') (fun c0_ => some (Sum.inl c0_)) (fun c0_ c1_ => some (Sum.inr (c0_, c1_))) := rfl
noncomputable def z3n (sn : Nat) (t7 : Int) (b0 : List Nat) (t8 : Int) : Bool := (z1e sn t7 b0 big t8).isSome
noncomputable def z3g (sn : Nat) (t7 : Int) (b0 : List Nat) (t8 : Int) : Bool := oL (z1e sn t7 b0 big t8)
noncomputable def z46 (sn : Nat) (t7 : Int) (b0 : List Nat) (t8 : Int) : Int := ((tL (z1e sn t7 b0 big t8)).getD default)
noncomputable def z4u (sn : Nat) (t7 : Int) (b0 : List Nat) (t8 : Int) : Int := ((tR (z1e sn t7 b0 big t8)).getD default).1
noncomputable def z4r (sn : Nat) (t7 : Int) (b0 : List Nat) (t8 : Int) : Bool := ((tR (z1e sn t7 b0 big t8)).getD default).2
theorem z90 {sn : Nat} {t7 : Int} {b0 : List Nat} {t8 : Int} {m : Nat} {r : Int} (hm : m = big) (h : z1e sn t7 b0 m t8 = some (Sum.inl r)) : z3n sn t7 b0 t8 = true ∧ z3g sn t7 b0 t8 = true ∧ z46 sn t7 b0 t8 = r := by
  subst hm
  unfold z3n z3g z46
  rw [h]
  exact ⟨rfl, rfl, rfl⟩
theorem z8y {sn : Nat} {t7 : Int} {b0 : List Nat} {t8 : Int} {m : Nat} {r : Int × Bool} (hm : m = big) (h : z1e sn t7 b0 m t8 = some (Sum.inr r)) : z3n sn t7 b0 t8 = true ∧ z3g sn t7 b0 t8 = false ∧ z4u sn t7 b0 t8 = r.1 ∧ z4r sn t7 b0 t8 = r.2 := by
  subst hm
  unfold z3n z3g z4u z4r
  rw [h]
  exact ⟨rfl, rfl, rfl, rfl⟩
noncomputable def z8g {R : Type} (q02 : Nat) (q06 : List Nat) (q03 : Nat) (q09 : List Nat) (q04 : Nat) (q0a : List Nat) (q0f : Nat) (k_ : Bool → Option R) : Option R := (grd (zb6 q02 (pF q06 0 (muN q02 1)) q03 (pF q09 0 (muN q03 1)) q04 (pF q0a 0 (muN q04 1))) (br (zb3 q02 (pF q06 0 (muN q02 1)) q03 (pF q09 0 (muN q03 1)) q04 (pF q0a 0 (muN q04 1))) (grd (z4b q0f) (k_ (z44 q0f))) (k_ Bool.false)))
noncomputable def z8e (q02 : Nat) (q06 : List Nat) (q03 : Nat) (q09 : List Nat) (q04 : Nat) (q0a : List Nat) (q0f : Nat) : Option (Bool) := z8g q02 q06 q03 q09 q04 q0a q0f (fun c0_ => some c0_)
theorem ze5 {R R' : Type} (o : Option R → Option R') (h0 : o none = none) (q02 : Nat) (q06 : List Nat) (q03 : Nat) (q09 : List Nat) (q04 : Nat) (q0a : List Nat) (q0f : Nat) (k_ : Bool → Option R) : z8g q02 q06 q03 q09 q04 q0a q0f (fun c0_ => o (k_ c0_)) = o (z8g q02 q06 q03 q09 q04 q0a q0f k_) := by
  unfold z8g
  repeat (first | refine grd_out h0 ?_ | refine br_out ?_ ?_ | rfl | exact h0.symm)
noncomputable def zb4 (q02 : Nat) (q06 : List Nat) (q03 : Nat) (q09 : List Nat) (q04 : Nat) (q0a : List Nat) (q0f : Nat) : Bool := (z8e q02 q06 q03 q09 q04 q0a q0f).isSome
noncomputable def zas (q02 : Nat) (q06 : List Nat) (q03 : Nat) (q09 : List Nat) (q04 : Nat) (q0a : List Nat) (q0f : Nat) : Bool := ((z8e q02 q06 q03 q09 q04 q0a q0f).getD default)
theorem zfs {q02 : Nat} {q06 : List Nat} {q03 : Nat} {q09 : List Nat} {q04 : Nat} {q0a : List Nat} {q0f : Nat} {r : Bool} (h : z8e q02 q06 q03 q09 q04 q0a q0f = some r) : zb4 q02 q06 q03 q09 q04 q0a q0f = true ∧ zas q02 q06 q03 q09 q04 q0a q0f = r := by
  unfold zb4 zas
  rw [h]
  exact ⟨rfl, rfl⟩
noncomputable def z3u {R : Type} (s_n : Nat) (s : List Nat) (k_ : Int → Option R) : Option R := (grd (z3n s_n (Int.ofNat s_n) s 0) (br (z3g s_n (Int.ofNat s_n) s 0) (k_ (z46 s_n (Int.ofNat s_n) s 0)) (k_ (Int.negSucc 0))))
noncomputable def z3t (s_n : Nat) (s : List Nat) : Option (Int) := z3u s_n s (fun c0_ => some c0_)
theorem z9h {R R' : Type} (o : Option R → Option R') (h0 : o none = none) (s_n : Nat) (s : List Nat) (k_ : Int → Option R) : z3u s_n s (fun c0_ => o (k_ c0_)) = o (z3u s_n s k_) := by
  unfold z3u
  repeat (first | refine grd_out h0 ?_ | refine br_out ?_ ?_ | rfl | exact h0.symm)
noncomputable def z4m (s_n : Nat) (s : List Nat) : Bool := (z3t s_n s).isSome
noncomputable def z4h (s_n : Nat) (s : List Nat) : Int := ((z3t s_n s).getD default)
theorem za2 {s_n : Nat} {s : List Nat} {r : Int} (h : z3t s_n s = some r) : z4m s_n s = true ∧ z4h s_n s = r := by
  unfold z4m z4h
  rw [h]
  exact ⟨rfl, rfl⟩
noncomputable def z9c {R : Type} (x : Nat) (k_ : Nat → Option R) : Option R := (grd (bnot (nanQ FloatKind.f64 x)) (k_ (fint Ieee.Toward.down x)))
noncomputable def z9d (x : Nat) : Option (Nat) := z9c x (fun c0_ => some c0_)
theorem zf4 {R R' : Type} (o : Option R → Option R') (h0 : o none = none) (x : Nat) (k_ : Nat → Option R) : z9c x (fun c0_ => o (k_ c0_)) = o (z9c x k_) := by
  unfold z9c
  repeat (first | refine grd_out h0 ?_ | refine br_out ?_ ?_ | rfl | exact h0.symm)
noncomputable def zaf (x : Nat) : Bool := (z9d x).isSome
noncomputable def z5i (x : Nat) : Nat := ((z9d x).getD default)
theorem zdf {x : Nat} {r : Nat} (h : z9d x = some r) : zaf x = true ∧ z5i x = r := by
  unfold zaf z5i
  rw [h]
  exact ⟨rfl, rfl⟩
noncomputable def z7p {R : Type} (x : Nat) (k_ : Nat → Option R) : Option R := (grd (zaf (fop BinOp.add FloatKind.f64 (fcvV FloatKind.f32 FloatKind.f64 x) 4602678819172646912)) (grd (z9s (fop BinOp.sub FloatKind.f64 (fcvV FloatKind.f32 FloatKind.f64 x) (z5i (fop BinOp.add FloatKind.f64 (fcvV FloatKind.f32 FloatKind.f64 x) 4602678819172646912)))) (br (fcmp BinOp.geq FloatKind.f32 (z79 (fop BinOp.sub FloatKind.f64 (fcvV FloatKind.f32 FloatKind.f64 x) (z5i (fop BinOp.add FloatKind.f64 (fcvV FloatKind.f32 FloatKind.f64 x) 4602678819172646912)))) 1056964608) (k_ 3204448256) (k_ (z79 (fop BinOp.sub FloatKind.f64 (fcvV FloatKind.f32 FloatKind.f64 x) (z5i (fop BinOp.add FloatKind.f64 (fcvV FloatKind.f32 FloatKind.f64 x) 4602678819172646912))))))))
noncomputable def z7j (x : Nat) : Option (Nat) := z7p x (fun c0_ => some c0_)
theorem ze3 {R R' : Type} (o : Option R → Option R') (h0 : o none = none) (x : Nat) (k_ : Nat → Option R) : z7p x (fun c0_ => o (k_ c0_)) = o (z7p x k_) := by
  unfold z7p
  repeat (first | refine grd_out h0 ?_ | refine br_out ?_ ?_ | rfl | exact h0.symm)
noncomputable def zat (x : Nat) : Bool := (z7j x).isSome
noncomputable def z01 (x : Nat) : Nat := ((z7j x).getD default)
theorem zfd {x : Nat} {r : Nat} (h : z7j x = some r) : zat x = true ∧ z01 x = r := by
  unfold zat z01
  rw [h]
  exact ⟨rfl, rfl⟩
noncomputable def z6s {R : Type} (x : Nat) (k_ : Nat → Option R) : Option R := (grd (zaf (fop BinOp.add FloatKind.f64 (fcvV FloatKind.f32 FloatKind.f64 x) 4602678819172646912)) (grd (fcvB FloatKind.f64 FloatKind.f32 (fop BinOp.sub FloatKind.f64 (fcvV FloatKind.f32 FloatKind.f64 x) (z5i (fop BinOp.add FloatKind.f64 (fcvV FloatKind.f32 FloatKind.f64 x) 4602678819172646912)))) (br (fcmp BinOp.geq FloatKind.f32 (fcvV FloatKind.f64 FloatKind.f32 (fop BinOp.sub FloatKind.f64 (fcvV FloatKind.f32 FloatKind.f64 x) (z5i (fop BinOp.add FloatKind.f64 (fcvV FloatKind.f32 FloatKind.f64 x) 4602678819172646912)))) 1056964608) (k_ 3204448256) (k_ (fcvV FloatKind.f64 FloatKind.f32 (fop BinOp.sub FloatKind.f64 (fcvV FloatKind.f32 FloatKind.f64 x) (z5i (fop BinOp.add FloatKind.f64 (fcvV FloatKind.f32 FloatKind.f64 x) 4602678819172646912))))))))
noncomputable def z6p (x : Nat) : Option (Nat) := z6s x (fun c0_ => some c0_)
theorem zd7 {R R' : Type} (o : Option R → Option R') (h0 : o none = none) (x : Nat) (k_ : Nat → Option R) : z6s x (fun c0_ => o (k_ c0_)) = o (z6s x k_) := by
  unfold z6s
  repeat (first | refine grd_out h0 ?_ | refine br_out ?_ ?_ | rfl | exact h0.symm)
noncomputable def z9t (x : Nat) : Bool := (z6p x).isSome
noncomputable def z39 (x : Nat) : Nat := ((z6p x).getD default)
theorem zeg {x : Nat} {r : Nat} (h : z6p x = some r) : z9t x = true ∧ z39 x = r := by
  unfold z9t z39
  rw [h]
  exact ⟨rfl, rfl⟩
noncomputable def z3f {R : Type} (s_n : Nat) (s : List Nat) (k_ : Bool → Option R) : Option R := (grd (z4i s_n (pF s 0 (muN s_n 1))) (k_ (leI 0 (z4g s_n (pF s 0 (muN s_n 1))))))
noncomputable def z3i (s_n : Nat) (s : List Nat) : Option (Bool) := z3f s_n s (fun c0_ => some c0_)
theorem z8a {R R' : Type} (o : Option R → Option R') (h0 : o none = none) (s_n : Nat) (s : List Nat) (k_ : Bool → Option R) : z3f s_n s (fun c0_ => o (k_ c0_)) = o (z3f s_n s k_) := by
  unfold z3f
  repeat (first | refine grd_out h0 ?_ | refine br_out ?_ ?_ | rfl | exact h0.symm)
noncomputable def z48 (s_n : Nat) (s : List Nat) : Bool := (z3i s_n s).isSome
noncomputable def z47 (s_n : Nat) (s : List Nat) : Bool := ((z3i s_n s).getD default)
theorem z8x {s_n : Nat} {s : List Nat} {r : Bool} (h : z3i s_n s = some r) : z48 s_n s = true ∧ z47 s_n s = r := by
  unfold z48 z47
  rw [h]
  exact ⟨rfl, rfl⟩
noncomputable def z3p {R : Type} (s_n : Nat) (s : List Nat) (k_ : Bool → Option R) : Option R := (grd (z4m s_n (pF s 0 (muN s_n 1))) (k_ (leI 0 (z4h s_n (pF s 0 (muN s_n 1))))))
noncomputable def z3o (s_n : Nat) (s : List Nat) : Option (Bool) := z3p s_n s (fun c0_ => some c0_)
theorem z8q {R R' : Type} (o : Option R → Option R') (h0 : o none = none) (s_n : Nat) (s : List Nat) (k_ : Bool → Option R) : z3p s_n s (fun c0_ => o (k_ c0_)) = o (z3p s_n s k_) := by
  unfold z3p
  repeat (first | refine grd_out h0 ?_ | refine br_out ?_ ?_ | rfl | exact h0.symm)
noncomputable def z4d (s_n : Nat) (s : List Nat) : Bool := (z3o s_n s).isSome
noncomputable def z4a (s_n : Nat) (s : List Nat) : Bool := ((z3o s_n s).getD default)
theorem z9l {s_n : Nat} {s : List Nat} {r : Bool} (h : z3o s_n s = some r) : z4d s_n s = true ∧ z4a s_n s = r := by
  unfold z4d z4a
  rw [h]
  exact ⟨rfl, rfl⟩
noncomputable def z6o {R : Type} (q0q : Nat) (q0t : List Nat) (k_ : Bool → Option R) : Option R := (grd (z48 q0q (pF q0t 0 (muN q0q 1))) (k_ (bnot (z47 q0q (pF q0t 0 (muN q0q 1))))))
noncomputable def z6f (q0q : Nat) (q0t : List Nat) : Option (Bool) := z6o q0q q0t (fun c0_ => some c0_)
theorem zd1 {R R' : Type} (o : Option R → Option R') (h0 : o none = none) (q0q : Nat) (q0t : List Nat) (k_ : Bool → Option R) : z6o q0q q0t (fun c0_ => o (k_ c0_)) = o (z6o q0q q0t k_) := by
  unfold z6o
  repeat (first | refine grd_out h0 ?_ | refine br_out ?_ ?_ | rfl | exact h0.symm)
noncomputable def z9v (q0q : Nat) (q0t : List Nat) : Bool := (z6f q0q q0t).isSome
noncomputable def z93 (q0q : Nat) (q0t : List Nat) : Bool := ((z6f q0q q0t).getD default)
theorem zem {q0q : Nat} {q0t : List Nat} {r : Bool} (h : z6f q0q q0t = some r) : z9v q0q q0t = true ∧ z93 q0q q0t = r := by
  unfold z9v z93
  rw [h]
  exact ⟨rfl, rfl⟩
noncomputable def z70 {R : Type} (q0q : Nat) (q0t : List Nat) (k_ : Bool → Option R) : Option R := (grd (z4d q0q (pF q0t 0 (muN q0q 1))) (k_ (bnot (z4a q0q (pF q0t 0 (muN q0q 1))))))
noncomputable def z73 (q0q : Nat) (q0t : List Nat) : Option (Bool) := z70 q0q q0t (fun c0_ => some c0_)
theorem zdm {R R' : Type} (o : Option R → Option R') (h0 : o none = none) (q0q : Nat) (q0t : List Nat) (k_ : Bool → Option R) : z70 q0q q0t (fun c0_ => o (k_ c0_)) = o (z70 q0q q0t k_) := by
  unfold z70
  repeat (first | refine grd_out h0 ?_ | refine br_out ?_ ?_ | rfl | exact h0.symm)
noncomputable def za4 (q0q : Nat) (q0t : List Nat) : Bool := (z73 q0q q0t).isSome
noncomputable def z9x (q0q : Nat) (q0t : List Nat) : Bool := ((z73 q0q q0t).getD default)
theorem zf2 {q0q : Nat} {q0t : List Nat} {r : Bool} (h : z73 q0q q0t = some r) : za4 q0q q0t = true ∧ z9x q0q q0t = r := by
  unfold za4 z9x
  rw [h]
  exact ⟨rfl, rfl⟩
noncomputable def z4v {R : Type} (t8 : Nat) (b0 : List Nat) (q0m : Nat) (t10 : Int) (kn_ : Int → Option R) (k0_ : Int → Bool → Option R) : Option R := (br (leI 0 t10) (grd (okIx t10 q0m) (br (fcmp BinOp.gtr FloatKind.f32 (gF b0 (ixO 0 t10 1)) t8) (kn_ (subI IntKind.i64 t10 1)) (k0_ t10 (fcmp BinOp.gtr FloatKind.f32 (gF b0 (ixO 0 t10 1)) t8)))) (k0_ t10 Bool.false))
theorem zcj {R R' : Type} (o : Option R → Option R') (h0 : o none = none) (t8 : Nat) (b0 : List Nat) (q0m : Nat) (t10 : Int) (kn_ : Int → Option R) (k0_ : Int → Bool → Option R) : z4v t8 b0 q0m t10 (fun t10' => o (kn_ t10')) (fun c0_ c1_ => o (k0_ c0_ c1_)) = o (z4v t8 b0 q0m t10 kn_ k0_) := by
  unfold z4v
  repeat (first | refine grd_out h0 ?_ | refine br_out ?_ ?_ | rfl | exact h0.symm)
noncomputable def z43 (t8 : Nat) (b0 : List Nat) (q0m : Nat) : Nat → Int → Option ((Int × Bool))
  | 0, _ => none
  | n + 1, t10 => z4v t8 b0 q0m  t10  (fun t10' => z43 t8 b0 q0m n t10') (fun c0_ c1_ => some (c0_, c1_))
theorem zaz (t8 : Nat) (b0 : List Nat) (q0m : Nat) (n : Nat) (t10 : Int) : z43 t8 b0 q0m (n + 1) t10 = z4v t8 b0 q0m  t10  (fun t10' => z43 t8 b0 q0m n t10') (fun c0_ c1_ => some (c0_, c1_)) := rfl
noncomputable def z95 (t8 : Nat) (b0 : List Nat) (q0m : Nat) (t10 : Int) : Bool := (z43 t8 b0 q0m big t10).isSome
noncomputable def z00 (t8 : Nat) (b0 : List Nat) (q0m : Nat) (t10 : Int) : Int := ((z43 t8 b0 q0m big t10).getD default).1
noncomputable def z9r (t8 : Nat) (b0 : List Nat) (q0m : Nat) (t10 : Int) : Bool := ((z43 t8 b0 q0m big t10).getD default).2
theorem zbb {t8 : Nat} {b0 : List Nat} {q0m : Nat} {t10 : Int} {m : Nat} {r : Int × Bool} (hm : m = big) (h : z43 t8 b0 q0m m t10 = some r) : z95 t8 b0 q0m t10 = true ∧ z00 t8 b0 q0m t10 = r.1 ∧ z9r t8 b0 q0m t10 = r.2 := by
  subst hm
  unfold z95 z00 z9r
  rw [h]
  exact ⟨rfl, rfl, rfl⟩
noncomputable def z2o {R : Type} (sn : Nat) (t7 : Int) (b0 : List Nat) (b4 : Nat) (t8 : Int) (kn_ : Int → Option R) (k0_ : Int → Option R) (k1_ : Int → Bool → Option R) : Option R := (br (ltI t8 t7) (grd (okIx t8 sn) (br (fcmp BinOp.gtr FloatKind.f32 (gF b0 (ixO 0 t8 1)) b4) (k0_ t8) (kn_ (addI IntKind.i64 t8 1)))) (k1_ t8 (ltI t8 t7)))
theorem z7o {R R' : Type} (o : Option R → Option R') (h0 : o none = none) (sn : Nat) (t7 : Int) (b0 : List Nat) (b4 : Nat) (t8 : Int) (kn_ : Int → Option R) (k0_ : Int → Option R) (k1_ : Int → Bool → Option R) : z2o sn t7 b0 b4 t8 (fun t8' => o (kn_ t8')) (fun c0_ => o (k0_ c0_)) (fun c0_ c1_ => o (k1_ c0_ c1_)) = o (z2o sn t7 b0 b4 t8 kn_ k0_ k1_) := by
  unfold z2o
  repeat (first | refine grd_out h0 ?_ | refine br_out ?_ ?_ | rfl | exact h0.symm)
noncomputable def z0l (sn : Nat) (t7 : Int) (b0 : List Nat) (b4 : Nat) : Nat → Int → Option ((Int) ⊕ (Int × Bool))
  | 0, _ => none
  | n + 1, t8 => z2o sn t7 b0 b4  t8  (fun t8' => z0l sn t7 b0 b4 n t8') (fun c0_ => some (Sum.inl c0_)) (fun c0_ c1_ => some (Sum.inr (c0_, c1_)))
theorem z4z (sn : Nat) (t7 : Int) (b0 : List Nat) (b4 : Nat) (n : Nat) (t8 : Int) : z0l sn t7 b0 b4 (n + 1) t8 = z2o sn t7 b0 b4  t8  (fun t8' => z0l sn t7 b0 b4 n t8') (fun c0_ => some (Sum.inl c0_)) (fun c0_ c1_ => some (Sum.inr (c0_, c1_))) := rfl
noncomputable def z3c (sn : Nat) (t7 : Int) (b0 : List Nat) (b4 : Nat) (t8 : Int) : Bool := (z0l sn t7 b0 b4 big t8).isSome
noncomputable def z3b (sn : Nat) (t7 : Int) (b0 : List Nat) (b4 : Nat) (t8 : Int) : Bool := oL (z0l sn t7 b0 b4 big t8)
noncomputable def z1r (sn : Nat) (t7 : Int) (b0 : List Nat) (b4 : Nat) (t8 : Int) : Int := ((tL (z0l sn t7 b0 b4 big t8)).getD default)
noncomputable def z4k (sn : Nat) (t7 : Int) (b0 : List Nat) (b4 : Nat) (t8 : Int) : Int := ((tR (z0l sn t7 b0 b4 big t8)).getD default).1
noncomputable def z4j (sn : Nat) (t7 : Int) (b0 : List Nat) (b4 : Nat) (t8 : Int) : Bool := ((tR (z0l sn t7 b0 b4 big t8)).getD default).2
theorem z85 {sn : Nat} {t7 : Int} {b0 : List Nat} {b4 : Nat} {t8 : Int} {m : Nat} {r : Int} (hm : m = big) (h : z0l sn t7 b0 b4 m t8 = some (Sum.inl r)) : z3c sn t7 b0 b4 t8 = true ∧ z3b sn t7 b0 b4 t8 = true ∧ z1r sn t7 b0 b4 t8 = r := by
  subst hm
  unfold z3c z3b z1r
  rw [h]
  exact ⟨rfl, rfl, rfl⟩
theorem z84 {sn : Nat} {t7 : Int} {b0 : List Nat} {b4 : Nat} {t8 : Int} {m : Nat} {r : Int × Bool} (hm : m = big) (h : z0l sn t7 b0 b4 m t8 = some (Sum.inr r)) : z3c sn t7 b0 b4 t8 = true ∧ z3b sn t7 b0 b4 t8 = false ∧ z4k sn t7 b0 b4 t8 = r.1 ∧ z4j sn t7 b0 b4 t8 = r.2 := by
  subst hm
  unfold z3c z3b z4k z4j
  rw [h]
  exact ⟨rfl, rfl, rfl, rfl⟩
noncomputable def z6l {R : Type} (q00 : Nat) (q01 : List Nat) (q0c : Nat) (q0d : List Nat) (q0b : Nat) (q0e : List Nat) (x1 : Nat) (k_ : Int → Int → Nat → Nat → Option R) : Option R := (grd (zat x1) (grd (z95 (z01 x1) q01 q00 (subI IntKind.i64 (Int.ofNat q00) 1)) (br (ltI (z00 (z01 x1) q01 q00 (subI IntKind.i64 (Int.ofNat q00) 1)) 0) (grd (okIx (subI IntKind.i64 (Int.ofNat q00) 1) q00) (grd (okIx 0 q00) (br (eqI 0 0) (br (fcmp BinOp.lss FloatKind.f32 (z01 x1) (gF q01 (ixO 0 0 1))) (br (fcmp BinOp.eql FloatKind.f32 (fop BinOp.sub FloatKind.f32 (gF q01 (ixO 0 0 1)) (fop BinOp.sub FloatKind.f32 (gF q01 (ixO 0 (subI IntKind.i64 (Int.ofNat q00) 1) 1)) 1065353216)) 0) (k_ (subI IntKind.i64 (Int.ofNat q00) 1) 0 0 (fop BinOp.sub FloatKind.f32 (gF q01 (ixO 0 0 1)) (fop BinOp.sub FloatKind.f32 (gF q01 (ixO 0 (subI IntKind.i64 (Int.ofNat q00) 1) 1)) 1065353216))) (k_ (subI IntKind.i64 (Int.ofNat q00) 1) 0 (fop BinOp.quo FloatKind.f32 (fop BinOp.sub FloatKind.f32 (z01 x1) (fop BinOp.sub FloatKind.f32 (gF q01 (ixO 0 (subI IntKind.i64 (Int.ofNat q00) 1) 1)) 1065353216)) (fop BinOp.sub FloatKind.f32 (gF q01 (ixO 0 0 1)) (fop BinOp.sub FloatKind.f32 (gF q01 (ixO 0 (subI IntKind.i64 (Int.ofNat q00) 1) 1)) 1065353216))) (fop BinOp.sub FloatKind.f32 (gF q01 (ixO 0 0 1)) (fop BinOp.sub FloatKind.f32 (gF q01 (ixO 0 (subI IntKind.i64 (Int.ofNat q00) 1) 1)) 1065353216)))) (br (eqI 0 0) (br (fcmp BinOp.eql FloatKind.f32 (fop BinOp.sub FloatKind.f32 (fop BinOp.add FloatKind.f32 (gF q01 (ixO 0 0 1)) 1065353216) (gF q01 (ixO 0 (subI IntKind.i64 (Int.ofNat q00) 1) 1))) 0) (k_ (subI IntKind.i64 (Int.ofNat q00) 1) 0 0 (fop BinOp.sub FloatKind.f32 (fop BinOp.add FloatKind.f32 (gF q01 (ixO 0 0 1)) 1065353216) (gF q01 (ixO 0 (subI IntKind.i64 (Int.ofNat q00) 1) 1)))) (k_ (subI IntKind.i64 (Int.ofNat q00) 1) 0 (fop BinOp.quo FloatKind.f32 (fop BinOp.sub FloatKind.f32 (z01 x1) (gF q01 (ixO 0 (subI IntKind.i64 (Int.ofNat q00) 1) 1))) (fop BinOp.sub FloatKind.f32 (fop BinOp.add FloatKind.f32 (gF q01 (ixO 0 0 1)) 1065353216) (gF q01 (ixO 0 (subI IntKind.i64 (Int.ofNat q00) 1) 1)))) (fop BinOp.sub FloatKind.f32 (fop BinOp.add FloatKind.f32 (gF q01 (ixO 0 0 1)) 1065353216) (gF q01 (ixO 0 (subI IntKind.i64 (Int.ofNat q00) 1) 1))))) (br (fcmp BinOp.eql FloatKind.f32 (fop BinOp.sub FloatKind.f32 (gF q01 (ixO 0 0 1)) (gF q01 (ixO 0 (subI IntKind.i64 (Int.ofNat q00) 1) 1))) 0) (k_ (subI IntKind.i64 (Int.ofNat q00) 1) 0 0 (fop BinOp.sub FloatKind.f32 (gF q01 (ixO 0 0 1)) (gF q01 (ixO 0 (subI IntKind.i64 (Int.ofNat q00) 1) 1)))) (k_ (subI IntKind.i64 (Int.ofNat q00) 1) 0 (fop BinOp.quo FloatKind.f32 (fop BinOp.sub FloatKind.f32 (z01 x1) (gF q01 (ixO 0 (subI IntKind.i64 (Int.ofNat q00) 1) 1))) (fop BinOp.sub FloatKind.f32 (gF q01 (ixO 0 0 1)) (gF q01 (ixO 0 (subI IntKind.i64 (Int.ofNat q00) 1) 1)))) (fop BinOp.sub FloatKind.f32 (gF q01 (ixO 0 0 1)) (gF q01 (ixO 0 (subI IntKind.i64 (Int.ofNat q00) 1) 1))))))) (br (eqI 0 0) (br (fcmp BinOp.eql FloatKind.f32 (fop BinOp.sub FloatKind.f32 (fop BinOp.add FloatKind.f32 (gF q01 (ixO 0 0 1)) 1065353216) (gF q01 (ixO 0 (subI IntKind.i64 (Int.ofNat q00) 1) 1))) 0) (k_ (subI IntKind.i64 (Int.ofNat q00) 1) 0 0 (fop BinOp.sub FloatKind.f32 (fop BinOp.add FloatKind.f32 (gF q01 (ixO 0 0 1)) 1065353216) (gF q01 (ixO 0 (subI IntKind.i64 (Int.ofNat q00) 1) 1)))) (k_ (subI IntKind.i64 (Int.ofNat q00) 1) 0 (fop BinOp.quo FloatKind.f32 (fop BinOp.sub FloatKind.f32 (z01 x1) (gF q01 (ixO 0 (subI IntKind.i64 (Int.ofNat q00) 1) 1))) (fop BinOp.sub FloatKind.f32 (fop BinOp.add FloatKind.f32 (gF q01 (ixO 0 0 1)) 1065353216) (gF q01 (ixO 0 (subI IntKind.i64 (Int.ofNat q00) 1) 1)))) (fop BinOp.sub FloatKind.f32 (fop BinOp.add FloatKind.f32 (gF q01 (ixO 0 0 1)) 1065353216) (gF q01 (ixO 0 (subI IntKind.i64 (Int.ofNat q00) 1) 1))))) (br (fcmp BinOp.eql FloatKind.f32 (fop BinOp.sub FloatKind.f32 (gF q01 (ixO 0 0 1)) (gF q01 (ixO 0 (subI IntKind.i64 (Int.ofNat q00) 1) 1))) 0) (k_ (subI IntKind.i64 (Int.ofNat q00) 1) 0 0 (fop BinOp.sub FloatKind.f32 (gF q01 (ixO 0 0 1)) (gF q01 (ixO 0 (subI IntKind.i64 (Int.ofNat q00) 1) 1)))) (k_ (subI IntKind.i64 (Int.ofNat q00) 1) 0 (fop BinOp.quo FloatKind.f32 (fop BinOp.sub FloatKind.f32 (z01 x1) (gF q01 (ixO 0 (subI IntKind.i64 (Int.ofNat q00) 1) 1))) (fop BinOp.sub FloatKind.f32 (gF q01 (ixO 0 0 1)) (gF q01 (ixO 0 (subI IntKind.i64 (Int.ofNat q00) 1) 1)))) (fop BinOp.sub FloatKind.f32 (gF q01 (ixO 0 0 1)) (gF q01 (ixO 0 (subI IntKind.i64 (Int.ofNat q00) 1) 1))))))))) (br (eqI (addI IntKind.i64 (z00 (z01 x1) q01 q00 (subI IntKind.i64 (Int.ofNat q00) 1)) 1) (Int.ofNat q00)) (grd (okIx (z00 (z01 x1) q01 q00 (subI IntKind.i64 (Int.ofNat q00) 1)) q00) (grd (okIx 0 q00) (br (eqI 0 0) (br (fcmp BinOp.lss FloatKind.f32 (z01 x1) (gF q01 (ixO 0 0 1))) (br (fcmp BinOp.eql FloatKind.f32 (fop BinOp.sub FloatKind.f32 (gF q01 (ixO 0 0 1)) (fop BinOp.sub FloatKind.f32 (gF q01 (ixO 0 (z00 (z01 x1) q01 q00 (subI IntKind.i64 (Int.ofNat q00) 1)) 1)) 1065353216)) 0) (k_ (z00 (z01 x1) q01 q00 (subI IntKind.i64 (Int.ofNat q00) 1)) 0 0 (fop BinOp.sub FloatKind.f32 (gF q01 (ixO 0 0 1)) (fop BinOp.sub FloatKind.f32 (gF q01 (ixO 0 (z00 (z01 x1) q01 q00 (subI IntKind.i64 (Int.ofNat q00) 1)) 1)) 1065353216))) (k_ (z00 (z01 x1) q01 q00 (subI IntKind.i64 (Int.ofNat q00) 1)) 0 (fop BinOp.quo FloatKind.f32 (fop BinOp.sub FloatKind.f32 (z01 x1) (fop BinOp.sub FloatKind.f32 (gF q01 (ixO 0 (z00 (z01 x1) q01 q00 (subI IntKind.i64 (Int.ofNat q00) 1)) 1)) 1065353216)) (fop BinOp.sub FloatKind.f32 (gF q01 (ixO 0 0 1)) (fop BinOp.sub FloatKind.f32 (gF q01 (ixO 0 (z00 (z01 x1) q01 q00 (subI IntKind.i64 (Int.ofNat q00) 1)) 1)) 1065353216))) (fop BinOp.sub FloatKind.f32 (gF q01 (ixO 0 0 1)) (fop BinOp.sub FloatKind.f32 (gF q01 (ixO 0 (z00 (z01 x1) q01 q00 (subI IntKind.i64 (Int.ofNat q00) 1)) 1)) 1065353216)))) (br (eqI 0 0) (br (fcmp BinOp.eql FloatKind.f32 (fop BinOp.sub FloatKind.f32 (fop BinOp.add FloatKind.f32 (gF q01 (ixO 0 0 1)) 1065353216) (gF q01 (ixO 0 (z00 (z01 x1) q01 q00 (subI IntKind.i64 (Int.ofNat q00) 1)) 1))) 0) (k_ (z00 (z01 x1) q01 q00 (subI IntKind.i64 (Int.ofNat q00) 1)) 0 0 (fop BinOp.sub FloatKind.f32 (fop BinOp.add FloatKind.f32 (gF q01 (ixO 0 0 1)) 1065353216) (gF q01 (ixO 0 (z00 (z01 x1) q01 q00 (subI IntKind.i64 (Int.ofNat q00) 1)) 1)))) (k_ (z00 (z01 x1) q01 q00 (subI IntKind.i64 (Int.ofNat q00) 1)) 0 (fop BinOp.quo FloatKind.f32 (fop BinOp.sub FloatKind.f32 (z01 x1) (gF q01 (ixO 0 (z00 (z01 x1) q01 q00 (subI IntKind.i64 (Int.ofNat q00) 1)) 1))) (fop BinOp.sub FloatKind.f32 (fop BinOp.add FloatKind.f32 (gF q01 (ixO 0 0 1)) 1065353216) (gF q01 (ixO 0 (z00 (z01 x1) q01 q00 (subI IntKind.i64 (Int.ofNat q00) 1)) 1)))) (fop BinOp.sub FloatKind.f32 (fop BinOp.add FloatKind.f32 (gF q01 (ixO 0 0 1)) 1065353216) (gF q01 (ixO 0 (z00 (z01 x1) q01 q00 (subI IntKind.i64 (Int.ofNat q00) 1)) 1))))) (br (fcmp BinOp.eql FloatKind.f32 (fop BinOp.sub FloatKind.f32 (gF q01 (ixO 0 0 1)) (gF q01 (ixO 0 (z00 (z01 x1) q01 q00 (subI IntKind.i64 (Int.ofNat q00) 1)) 1))) 0) (k_ (z00 (z01 x1) q01 q00 (subI IntKind.i64 (Int.ofNat q00) 1)) 0 0 (fop BinOp.sub FloatKind.f32 (gF q01 (ixO 0 0 1)) (gF q01 (ixO 0 (z00 (z01 x1) q01 q00 (subI IntKind.i64 (Int.ofNat q00) 1)) 1)))) (k_ (z00 (z01 x1) q01 q00 (subI IntKind.i64 (Int.ofNat q00) 1)) 0 (fop BinOp.quo FloatKind.f32 (fop BinOp.sub FloatKind.f32 (z01 x1) (gF q01 (ixO 0 (z00 (z01 x1) q01 q00 (subI IntKind.i64 (Int.ofNat q00) 1)) 1))) (fop BinOp.sub FloatKind.f32 (gF q01 (ixO 0 0 1)) (gF q01 (ixO 0 (z00 (z01 x1) q01 q00 (subI IntKind.i64 (Int.ofNat q00) 1)) 1)))) (fop BinOp.sub FloatKind.f32 (gF q01 (ixO 0 0 1)) (gF q01 (ixO 0 (z00 (z01 x1) q01 q00 (subI IntKind.i64 (Int.ofNat q00) 1)) 1))))))) (br (eqI 0 0) (br (fcmp BinOp.eql FloatKind.f32 (fop BinOp.sub FloatKind.f32 (fop BinOp.add FloatKind.f32 (gF q01 (ixO 0 0 1)) 1065353216) (gF q01 (ixO 0 (z00 (z01 x1) q01 q00 (subI IntKind.i64 (Int.ofNat q00) 1)) 1))) 0) (k_ (z00 (z01 x1) q01 q00 (subI IntKind.i64 (Int.ofNat q00) 1)) 0 0 (fop BinOp.sub FloatKind.f32 (fop BinOp.add FloatKind.f32 (gF q01 (ixO 0 0 1)) 1065353216) (gF q01 (ixO 0 (z00 (z01 x1) q01 q00 (subI IntKind.i64 (Int.ofNat q00) 1)) 1)))) (k_ (z00 (z01 x1) q01 q00 (subI IntKind.i64 (Int.ofNat q00) 1)) 0 (fop BinOp.quo FloatKind.f32 (fop BinOp.sub FloatKind.f32 (z01 x1) (gF q01 (ixO 0 (z00 (z01 x1) q01 q00 (subI IntKind.i64 (Int.ofNat q00) 1)) 1))) (fop BinOp.sub FloatKind.f32 (fop BinOp.add FloatKind.f32 (gF q01 (ixO 0 0 1)) 1065353216) (gF q01 (ixO 0 (z00 (z01 x1) q01 q00 (subI IntKind.i64 (Int.ofNat q00) 1)) 1)))) (fop BinOp.sub FloatKind.f32 (fop BinOp.add FloatKind.f32 (gF q01 (ixO 0 0 1)) 1065353216) (gF q01 (ixO 0 (z00 (z01 x1) q01 q00 (subI IntKind.i64 (Int.ofNat q00) 1)) 1))))) (br (fcmp BinOp.eql FloatKind.f32 (fop BinOp.sub FloatKind.f32 (gF q01 (ixO 0 0 1)) (gF q01 (ixO 0 (z00 (z01 x1) q01 q00 (subI IntKind.i64 (Int.ofNat q00) 1)) 1))) 0) (k_ (z00 (z01 x1) q01 q00 (subI IntKind.i64 (Int.ofNat q00) 1)) 0 0 (fop BinOp.sub FloatKind.f32 (gF q01 (ixO 0 0 1)) (gF q01 (ixO 0 (z00 (z01 x1) q01 q00 (subI IntKind.i64 (Int.ofNat q00) 1)) 1)))) (k_ (z00 (z01 x1) q01 q00 (subI IntKind.i64 (Int.ofNat q00) 1)) 0 (fop BinOp.quo FloatKind.f32 (fop BinOp.sub FloatKind.f32 (z01 x1) (gF q01 (ixO 0 (z00 (z01 x1) q01 q00 (subI IntKind.i64 (Int.ofNat q00) 1)) 1))) (fop BinOp.sub FloatKind.f32 (gF q01 (ixO 0 0 1)) (gF q01 (ixO 0 (z00 (z01 x1) q01 q00 (subI IntKind.i64 (Int.ofNat q00) 1)) 1)))) (fop BinOp.sub FloatKind.f32 (gF q01 (ixO 0 0 1)) (gF q01 (ixO 0 (z00 (z01 x1) q01 q00 (subI IntKind.i64 (Int.ofNat q00) 1)) 1))))))))) (grd (okIx (z00 (z01 x1) q01 q00 (subI IntKind.i64 (Int.ofNat q00) 1)) q00) (grd (okIx (addI IntKind.i64 (z00 (z01 x1) q01 q00 (subI IntKind.i64 (Int.ofNat q00) 1)) 1) q00) (br (eqI (addI IntKind.i64 (z00 (z01 x1) q01 q00 (subI IntKind.i64 (Int.ofNat q00) 1)) 1) 0) (br (fcmp BinOp.lss FloatKind.f32 (z01 x1) (gF q01 (ixO 0 (addI IntKind.i64 (z00 (z01 x1) q01 q00 (subI IntKind.i64 (Int.ofNat q00) 1)) 1) 1))) (br (fcmp BinOp.eql FloatKind.f32 (fop BinOp.sub FloatKind.f32 (gF q01 (ixO 0 (addI IntKind.i64 (z00 (z01 x1) q01 q00 (subI IntKind.i64 (Int.ofNat q00) 1)) 1) 1)) (fop BinOp.sub FloatKind.f32 (gF q01 (ixO 0 (z00 (z01 x1) q01 q00 (subI IntKind.i64 (Int.ofNat q00) 1)) 1)) 1065353216)) 0) (k_ (z00 (z01 x1) q01 q00 (subI IntKind.i64 (Int.ofNat q00) 1)) (addI IntKind.i64 (z00 (z01 x1) q01 q00 (subI IntKind.i64 (Int.ofNat q00) 1)) 1) 0 (fop BinOp.sub FloatKind.f32 (gF q01 (ixO 0 (addI IntKind.i64 (z00 (z01 x1) q01 q00 (subI IntKind.i64 (Int.ofNat q00) 1)) 1) 1)) (fop BinOp.sub FloatKind.f32 (gF q01 (ixO 0 (z00 (z01 x1) q01 q00 (subI IntKind.i64 (Int.ofNat q00) 1)) 1)) 1065353216))) (k_ (z00 (z01 x1) q01 q00 (subI IntKind.i64 (Int.ofNat q00) 1)) (addI IntKind.i64 (z00 (z01 x1) q01 q00 (subI IntKind.i64 (Int.ofNat q00) 1)) 1) (fop BinOp.quo FloatKind.f32 (fop BinOp.sub FloatKind.f32 (z01 x1) (fop BinOp.sub FloatKind.f32 (gF q01 (ixO 0 (z00 (z01 x1) q01 q00 (subI IntKind.i64 (Int.ofNat q00) 1)) 1)) 1065353216)) (fop BinOp.sub FloatKind.f32 (gF q01 (ixO 0 (addI IntKind.i64 (z00 (z01 x1) q01 q00 (subI IntKind.i64 (Int.ofNat q00) 1)) 1) 1)) (fop BinOp.sub FloatKind.f32 (gF q01 (ixO 0 (z00 (z01 x1) q01 q00 (subI IntKind.i64 (Int.ofNat q00) 1)) 1)) 1065353216))) (fop BinOp.sub FloatKind.f32 (gF q01 (ixO 0 (addI IntKind.i64 (z00 (z01 x1) q01 q00 (subI IntKind.i64 (Int.ofNat q00) 1)) 1) 1)) (fop BinOp.sub FloatKind.f32 (gF q01 (ixO 0 (z00 (z01 x1) q01 q00 (subI IntKind.i64 (Int.ofNat q00) 1)) 1)) 1065353216)))) (br (eqI (addI IntKind.i64 (z00 (z01 x1) q01 q00 (subI IntKind.i64 (Int.ofNat q00) 1)) 1) 0) (br (fcmp BinOp.eql FloatKind.f32 (fop BinOp.sub FloatKind.f32 (fop BinOp.add FloatKind.f32 (gF q01 (ixO 0 (addI IntKind.i64 (z00 (z01 x1) q01 q00 (subI IntKind.i64 (Int.ofNat q00) 1)) 1) 1)) 1065353216) (gF q01 (ixO 0 (z00 (z01 x1) q01 q00 (subI IntKind.i64 (Int.ofNat q00) 1)) 1))) 0) (k_ (z00 (z01 x1) q01 q00 (subI IntKind.i64 (Int.ofNat q00) 1)) (addI IntKind.i64 (z00 (z01 x1) q01 q00 (subI IntKind.i64 (Int.ofNat q00) 1)) 1) 0 (fop BinOp.sub FloatKind.f32 (fop BinOp.add FloatKind.f32 (gF q01 (ixO 0 (addI IntKind.i64 (z00 (z01 x1) q01 q00 (subI IntKind.i64 (Int.ofNat q00) 1)) 1) 1)) 1065353216) (gF q01 (ixO 0 (z00 (z01 x1) q01 q00 (subI IntKind.i64 (Int.ofNat q00) 1)) 1)))) (k_ (z00 (z01 x1) q01 q00 (subI IntKind.i64 (Int.ofNat q00) 1)) (addI IntKind.i64 (z00 (z01 x1) q01 q00 (subI IntKind.i64 (Int.ofNat q00) 1)) 1) (fop BinOp.quo FloatKind.f32 (fop BinOp.sub FloatKind.f32 (z01 x1) (gF q01 (ixO 0 (z00 (z01 x1) q01 q00 (subI IntKind.i64 (Int.ofNat q00) 1)) 1))) (fop BinOp.sub FloatKind.f32 (fop BinOp.add FloatKind.f32 (gF q01 (ixO 0 (addI IntKind.i64 (z00 (z01 x1) q01 q00 (subI IntKind.i64 (Int.ofNat q00) 1)) 1) 1)) 1065353216) (gF q01 (ixO 0 (z00 (z01 x1) q01 q00 (subI IntKind.i64 (Int.ofNat q00) 1)) 1)))) (fop BinOp.sub FloatKind.f32 (fop BinOp.add FloatKind.f32 (gF q01 (ixO 0 (addI IntKind.i64 (z00 (z01 x1) q01 q00 (subI IntKind.i64 (Int.ofNat q00) 1)) 1) 1)) 1065353216) (gF q01 (ixO 0 (z00 (z01 x1) q01 q00 (subI IntKind.i64 (Int.ofNat q00) 1)) 1))))) (br (fcmp BinOp.eql FloatKind.f32 (fop BinOp.sub FloatKind.f32 (gF q01 (ixO 0 (addI IntKind.i64 (z00 (z01 x1) q01 q00 (subI IntKind.i64 (Int.ofNat q00) 1)) 1) 1)) (gF q01 (ixO 0 (z00 (z01 x1) q01 q00 (subI IntKind.i64 (Int.ofNat q00) 1)) 1))) 0) (k_ (z00 (z01 x1) q01 q00 (subI IntKind.i64 (Int.ofNat q00) 1)) (addI IntKind.i64 (z00 (z01 x1) q01 q00 (subI IntKind.i64 (Int.ofNat q00) 1)) 1) 0 (fop BinOp.sub FloatKind.f32 (gF q01 (ixO 0 (addI IntKind.i64 (z00 (z01 x1) q01 q00 (subI IntKind.i64 (Int.ofNat q00) 1)) 1) 1)) (gF q01 (ixO 0 (z00 (z01 x1) q01 q00 (subI IntKind.i64 (Int.ofNat q00) 1)) 1)))) (k_ (z00 (z01 x1) q01 q00 (subI IntKind.i64 (Int.ofNat q00) 1)) (addI IntKind.i64 (z00 (z01 x1) q01 q00 (subI IntKind.i64 (Int.ofNat q00) 1)) 1) (fop BinOp.quo FloatKind.f32 (fop BinOp.sub FloatKind.f32 (z01 x1) (gF q01 (ixO 0 (z00 (z01 x1) q01 q00 (subI IntKind.i64 (Int.ofNat q00) 1)) 1))) (fop BinOp.sub FloatKind.f32 (gF q01 (ixO 0 (addI IntKind.i64 (z00 (z01 x1) q01 q00 (subI IntKind.i64 (Int.ofNat q00) 1)) 1) 1)) (gF q01 (ixO 0 (z00 (z01 x1) q01 q00 (subI IntKind.i64 (Int.ofNat q00) 1)) 1)))) (fop BinOp.sub FloatKind.f32 (gF q01 (ixO 0 (addI IntKind.i64 (z00 (z01 x1) q01 q00 (subI IntKind.i64 (Int.ofNat q00) 1)) 1) 1)) (gF q01 (ixO 0 (z00 (z01 x1) q01 q00 (subI IntKind.i64 (Int.ofNat q00) 1)) 1))))))) (br (eqI (addI IntKind.i64 (z00 (z01 x1) q01 q00 (subI IntKind.i64 (Int.ofNat q00) 1)) 1) 0) (br (fcmp BinOp.eql FloatKind.f32 (fop BinOp.sub FloatKind.f32 (fop BinOp.add FloatKind.f32 (gF q01 (ixO 0 (addI IntKind.i64 (z00 (z01 x1) q01 q00 (subI IntKind.i64 (Int.ofNat q00) 1)) 1) 1)) 1065353216) (gF q01 (ixO 0 (z00 (z01 x1) q01 q00 (subI IntKind.i64 (Int.ofNat q00) 1)) 1))) 0) (k_ (z00 (z01 x1) q01 q00 (subI IntKind.i64 (Int.ofNat q00) 1)) (addI IntKind.i64 (z00 (z01 x1) q01 q00 (subI IntKind.i64 (Int.ofNat q00) 1)) 1) 0 (fop BinOp.sub FloatKind.f32 (fop BinOp.add FloatKind.f32 (gF q01 (ixO 0 (addI IntKind.i64 (z00 (z01 x1) q01 q00 (subI IntKind.i64 (Int.ofNat q00) 1)) 1) 1)) 1065353216) (gF q01 (ixO 0 (z00 (z01 x1) q01 q00 (subI IntKind.i64 (Int.ofNat q00) 1)) 1)))) (k_ (z00 (z01 x1) q01 q00 (subI IntKind.i64 (Int.ofNat q00) 1)) (addI IntKind.i64 (z00 (z01 x1) q01 q00 (subI IntKind.i64 (Int.ofNat q00) 1)) 1) (fop BinOp.quo FloatKind.f32 (fop BinOp.sub FloatKind.f32 (z01 x1) (gF q01 (ixO 0 (z00 (z01 x1) q01 q00 (subI IntKind.i64 (Int.ofNat q00) 1)) 1))) (fop BinOp.sub FloatKind.f32 (fop BinOp.add FloatKind.f32 (gF q01 (ixO 0 (addI IntKind.i64 (z00 (z01 x1) q01 q00 (subI IntKind.i64 (Int.ofNat q00) 1)) 1) 1)) 1065353216) (gF q01 (ixO 0 (z00 (z01 x1) q01 q00 (subI IntKind.i64 (Int.ofNat q00) 1)) 1)))) (fop BinOp.sub FloatKind.f32 (fop BinOp.add FloatKind.f32 (gF q01 (ixO 0 (addI IntKind.i64 (z00 (z01 x1) q01 q00 (subI IntKind.i64 (Int.ofNat q00) 1)) 1) 1)) 1065353216) (gF q01 (ixO 0 (z00 (z01 x1) q01 q00 (subI IntKind.i64 (Int.ofNat q00) 1)) 1))))) (br (fcmp BinOp.eql FloatKind.f32 (fop BinOp.sub FloatKind.f32 (gF q01 (ixO 0 (addI IntKind.i64 (z00 (z01 x1) q01 q00 (subI IntKind.i64 (Int.ofNat q00) 1)) 1) 1)) (gF q01 (ixO 0 (z00 (z01 x1) q01 q00 (subI IntKind.i64 (Int.ofNat q00) 1)) 1))) 0) (k_ (z00 (z01 x1) q01 q00 (subI IntKind.i64 (Int.ofNat q00) 1)) (addI IntKind.i64 (z00 (z01 x1) q01 q00 (subI IntKind.i64 (Int.ofNat q00) 1)) 1) 0 (fop BinOp.sub FloatKind.f32 (gF q01 (ixO 0 (addI IntKind.i64 (z00 (z01 x1) q01 q00 (subI IntKind.i64 (Int.ofNat q00) 1)) 1) 1)) (gF q01 (ixO 0 (z00 (z01 x1) q01 q00 (subI IntKind.i64 (Int.ofNat q00) 1)) 1)))) (k_ (z00 (z01 x1) q01 q00 (subI IntKind.i64 (Int.ofNat q00) 1)) (addI IntKind.i64 (z00 (z01 x1) q01 q00 (subI IntKind.i64 (Int.ofNat q00) 1)) 1) (fop BinOp.quo FloatKind.f32 (fop BinOp.sub FloatKind.f32 (z01 x1) (gF q01 (ixO 0 (z00 (z01 x1) q01 q00 (subI IntKind.i64 (Int.ofNat q00) 1)) 1))) (fop BinOp.sub FloatKind.f32 (gF q01 (ixO 0 (addI IntKind.i64 (z00 (z01 x1) q01 q00 (subI IntKind.i64 (Int.ofNat q00) 1)) 1) 1)) (gF q01 (ixO 0 (z00 (z01 x1) q01 q00 (subI IntKind.i64 (Int.ofNat q00) 1)) 1)))) (fop BinOp.sub FloatKind.f32 (gF q01 (ixO 0 (addI IntKind.i64 (z00 (z01 x1) q01 q00 (subI IntKind.i64 (Int.ofNat q00) 1)) 1) 1)) (gF q01 (ixO 0 (z00 (z01 x1) q01 q00 (subI IntKind.i64 (Int.ofNat q00) 1)) 1)))))))))))))
noncomputable def z4x (q00 : Nat) (q01 : List Nat) (q0c : Nat) (q0d : List Nat) (q0b : Nat) (q0e : List Nat) (x1 : Nat) : Option (Int × Int × Nat × Nat) := z6l q00 q01 q0c q0d q0b q0e x1 (fun c0_ c1_ c2_ c3_ => some (c0_, c1_, c2_, c3_))
theorem zdy {R R' : Type} (o : Option R → Option R') (h0 : o none = none) (q00 : Nat) (q01 : List Nat) (q0c : Nat) (q0d : List Nat) (q0b : Nat) (q0e : List Nat) (x1 : Nat) (k_ : Int → Int → Nat → Nat → Option R) : z6l q00 q01 q0c q0d q0b q0e x1 (fun c0_ c1_ c2_ c3_ => o (k_ c0_ c1_ c2_ c3_)) = o (z6l q00 q01 q0c q0d q0b q0e x1 k_) := by
  unfold z6l
  repeat (first | refine grd_out h0 ?_ | refine br_out ?_ ?_ | rfl | exact h0.symm)
noncomputable def zau (q00 : Nat) (q01 : List Nat) (q0c : Nat) (q0d : List Nat) (q0b : Nat) (q0e : List Nat) (x1 : Nat) : Bool := (z4x q00 q01 q0c q0d q0b q0e x1).isSome
noncomputable def z5u (q00 : Nat) (q01 : List Nat) (q0c : Nat) (q0d : List Nat) (q0b : Nat) (q0e : List Nat) (x1 : Nat) : Int := ((z4x q00 q01 q0c q0d q0b q0e x1).getD default).1
noncomputable def z8p (q00 : Nat) (q01 : List Nat) (q0c : Nat) (q0d : List Nat) (q0b : Nat) (q0e : List Nat) (x1 : Nat) : Int := ((z4x q00 q01 q0c q0d q0b q0e x1).getD default).2.1
noncomputable def zaa (q00 : Nat) (q01 : List Nat) (q0c : Nat) (q0d : List Nat) (q0b : Nat) (q0e : List Nat) (x1 : Nat) : Nat := ((z4x q00 q01 q0c q0d q0b q0e x1).getD default).2.2.1
noncomputable def zb8 (q00 : Nat) (q01 : List Nat) (q0c : Nat) (q0d : List Nat) (q0b : Nat) (q0e : List Nat) (x1 : Nat) : Nat := ((z4x q00 q01 q0c q0d q0b q0e x1).getD default).2.2.2
theorem zf9 {q00 : Nat} {q01 : List Nat} {q0c : Nat} {q0d : List Nat} {q0b : Nat} {q0e : List Nat} {x1 : Nat} {r : Int × Int × Nat × Nat} (h : z4x q00 q01 q0c q0d q0b q0e x1 = some r) : zau q00 q01 q0c q0d q0b q0e x1 = true ∧ z5u q00 q01 q0c q0d q0b q0e x1 = r.1 ∧ z8p q00 q01 q0c q0d q0b q0e x1 = r.2.1 ∧ zaa q00 q01 q0c q0d q0b q0e x1 = r.2.2.1 ∧ zb8 q00 q01 q0c q0d q0b q0e x1 = r.2.2.2 := by
  unfold zau z5u z8p zaa zb8
  rw [h]
  exact ⟨rfl, rfl, rfl, rfl, rfl⟩
noncomputable def z4s {R : Type} (q00 : Nat) (q01 : List Nat) (q0c : Nat) (q0d : List Nat) (q0b : Nat) (q0e : List Nat) (x1 : Nat) (k_ : Int → Int → Nat → Nat → Nat → Option R) : Option R := (grd (z9t x1) (grd (z3c q00 (Int.ofNat q00) q01 (z39 x1) 0) (br (z3b q00 (Int.ofNat q00) q01 (z39 x1) 0) (br (eqI (z1r q00 (Int.ofNat q00) q01 (z39 x1) 0) 0) (grd (okIx (subI IntKind.i64 (Int.ofNat q00) 1) q00) (grd (okIx 0 q00) (k_ (subI IntKind.i64 (Int.ofNat q00) 1) 0 (fop BinOp.sub FloatKind.f32 (gF q01 (ixO 0 (subI IntKind.i64 (Int.ofNat q00) 1) 1)) 1065353216) (gF q01 (ixO 0 0 1)) (z39 x1)))) (br (ltI (z1r q00 (Int.ofNat q00) q01 (z39 x1) 0) 0) (grd (okIx (subI IntKind.i64 (Int.ofNat q00) 1) q00) (grd (okIx 0 q00) (k_ (subI IntKind.i64 (Int.ofNat q00) 1) 0 (gF q01 (ixO 0 (subI IntKind.i64 (Int.ofNat q00) 1) 1)) (fop BinOp.add FloatKind.f32 (gF q01 (ixO 0 0 1)) 1065353216) (z39 x1)))) (grd (okIx (subI IntKind.i64 (z1r q00 (Int.ofNat q00) q01 (z39 x1) 0) 1) q00) (grd (okIx (z1r q00 (Int.ofNat q00) q01 (z39 x1) 0) q00) (k_ (subI IntKind.i64 (z1r q00 (Int.ofNat q00) q01 (z39 x1) 0) 1) (z1r q00 (Int.ofNat q00) q01 (z39 x1) 0) (gF q01 (ixO 0 (subI IntKind.i64 (z1r q00 (Int.ofNat q00) q01 (z39 x1) 0) 1) 1)) (gF q01 (ixO 0 (z1r q00 (Int.ofNat q00) q01 (z39 x1) 0) 1)) (z39 x1)))))) (br (eqI (Int.negSucc 0) 0) (grd (okIx (subI IntKind.i64 (Int.ofNat q00) 1) q00) (grd (okIx 0 q00) (k_ (subI IntKind.i64 (Int.ofNat q00) 1) 0 (fop BinOp.sub FloatKind.f32 (gF q01 (ixO 0 (subI IntKind.i64 (Int.ofNat q00) 1) 1)) 1065353216) (gF q01 (ixO 0 0 1)) (z39 x1)))) (br (ltI (Int.negSucc 0) 0) (grd (okIx (subI IntKind.i64 (Int.ofNat q00) 1) q00) (grd (okIx 0 q00) (k_ (subI IntKind.i64 (Int.ofNat q00) 1) 0 (gF q01 (ixO 0 (subI IntKind.i64 (Int.ofNat q00) 1) 1)) (fop BinOp.add FloatKind.f32 (gF q01 (ixO 0 0 1)) 1065353216) (z39 x1)))) (grd (okIx (subI IntKind.i64 (Int.negSucc 0) 1) q00) (grd (okIx (Int.negSucc 0) q00) (k_ (subI IntKind.i64 (Int.negSucc 0) 1) (Int.negSucc 0) (gF q01 (ixO 0 (subI IntKind.i64 (Int.negSucc 0) 1) 1)) (gF q01 (ixO 0 (Int.negSucc 0) 1)) (z39 x1)))))))))
noncomputable def z3v (q00 : Nat) (q01 : List Nat) (q0c : Nat) (q0d : List Nat) (q0b : Nat) (q0e : List Nat) (x1 : Nat) : Option (Int × Int × Nat × Nat × Nat) := z4s q00 q01 q0c q0d q0b q0e x1 (fun c0_ c1_ c2_ c3_ c4_ => some (c0_, c1_, c2_, c3_, c4_))
theorem zbh {R R' : Type} (o : Option R → Option R') (h0 : o none = none) (q00 : Nat) (q01 : List Nat) (q0c : Nat) (q0d : List Nat) (q0b : Nat) (q0e : List Nat) (x1 : Nat) (k_ : Int → Int → Nat → Nat → Nat → Option R) : z4s q00 q01 q0c q0d q0b q0e x1 (fun c0_ c1_ c2_ c3_ c4_ => o (k_ c0_ c1_ c2_ c3_ c4_)) = o (z4s q00 q01 q0c q0d q0b q0e x1 k_) := by
  unfold z4s
  repeat (first | refine grd_out h0 ?_ | refine br_out ?_ ?_ | rfl | exact h0.symm)
noncomputable def z6x (q00 : Nat) (q01 : List Nat) (q0c : Nat) (q0d : List Nat) (q0b : Nat) (q0e : List Nat) (x1 : Nat) : Bool := (z3v q00 q01 q0c q0d q0b q0e x1).isSome
noncomputable def z40 (q00 : Nat) (q01 : List Nat) (q0c : Nat) (q0d : List Nat) (q0b : Nat) (q0e : List Nat) (x1 : Nat) : Int := ((z3v q00 q01 q0c q0d q0b q0e x1).getD default).1
noncomputable def z41 (q00 : Nat) (q01 : List Nat) (q0c : Nat) (q0d : List Nat) (q0b : Nat) (q0e : List Nat) (x1 : Nat) : Int := ((z3v q00 q01 q0c q0d q0b q0e x1).getD default).2.1
noncomputable def z4c (q00 : Nat) (q01 : List Nat) (q0c : Nat) (q0d : List Nat) (q0b : Nat) (q0e : List Nat) (x1 : Nat) : Nat := ((z3v q00 q01 q0c q0d q0b q0e x1).getD default).2.2.1
noncomputable def z4w (q00 : Nat) (q01 : List Nat) (q0c : Nat) (q0d : List Nat) (q0b : Nat) (q0e : List Nat) (x1 : Nat) : Nat := ((z3v q00 q01 q0c q0d q0b q0e x1).getD default).2.2.2.1
noncomputable def z57 (q00 : Nat) (q01 : List Nat) (q0c : Nat) (q0d : List Nat) (q0b : Nat) (q0e : List Nat) (x1 : Nat) : Nat := ((z3v q00 q01 q0c q0d q0b q0e x1).getD default).2.2.2.2
theorem zc5 {q00 : Nat} {q01 : List Nat} {q0c : Nat} {q0d : List Nat} {q0b : Nat} {q0e : List Nat} {x1 : Nat} {r : Int × Int × Nat × Nat × Nat} (h : z3v q00 q01 q0c q0d q0b q0e x1 = some r) : z6x q00 q01 q0c q0d q0b q0e x1 = true ∧ z40 q00 q01 q0c q0d q0b q0e x1 = r.1 ∧ z41 q00 q01 q0c q0d q0b q0e x1 = r.2.1 ∧ z4c q00 q01 q0c q0d q0b q0e x1 = r.2.2.1 ∧ z4w q00 q01 q0c q0d q0b q0e x1 = r.2.2.2.1 ∧ z57 q00 q01 q0c q0d q0b q0e x1 = r.2.2.2.2 := by
  unfold z6x z40 z41 z4c z4w z57
  rw [h]
  exact ⟨rfl, rfl, rfl, rfl, rfl, rfl⟩
noncomputable def z45 {R : Type} (q0z : Nat) (t43 : Int) (b0 : List Nat) (q0m : Nat) (t44 : Int) (kn_ : Int → Option R) (k0_ : Unit → Option R) (k1_ : Int → Bool → Option R) : Option R := (br (ltI t44 t43) (grd (okIx t44 q0z) (grd (za7 (gF b0 (ixO 0 t44 1)) 3204448256 1056964608) (br (bnot (z9w (gF b0 (ixO 0 t44 1)) 3204448256 1056964608)) (k0_ ()) (br (ltI 0 t44) (grd (okIx (subI IntKind.i64 t44 1) q0m) (br (fcmp BinOp.geq FloatKind.f32 (gF b0 (ixO 0 (subI IntKind.i64 t44 1) 1)) (gF b0 (ixO 0 t44 1))) (k0_ ()) (kn_ (addI IntKind.i64 t44 1)))) (kn_ (addI IntKind.i64 t44 1)))))) (k1_ t44 (ltI t44 t43)))
theorem zbg {R R' : Type} (o : Option R → Option R') (h0 : o none = none) (q0z : Nat) (t43 : Int) (b0 : List Nat) (q0m : Nat) (t44 : Int) (kn_ : Int → Option R) (k0_ : Unit → Option R) (k1_ : Int → Bool → Option R) : z45 q0z t43 b0 q0m t44 (fun t44' => o (kn_ t44')) (fun _ => o (k0_ ())) (fun c0_ c1_ => o (k1_ c0_ c1_)) = o (z45 q0z t43 b0 q0m t44 kn_ k0_ k1_) := by
  unfold z45
  repeat (first | refine grd_out h0 ?_ | refine br_out ?_ ?_ | rfl | exact h0.symm)
noncomputable def z3d (q0z : Nat) (t43 : Int) (b0 : List Nat) (q0m : Nat) : Nat → Int → Option ((Unit) ⊕ (Int × Bool))
  | 0, _ => none
  | n + 1, t44 => z45 q0z t43 b0 q0m  t44  (fun t44' => z3d q0z t43 b0 q0m n t44') (fun _ => some (Sum.inl ())) (fun c0_ c1_ => some (Sum.inr (c0_, c1_)))
theorem z9q (q0z : Nat) (t43 : Int) (b0 : List Nat) (q0m : Nat) (n : Nat) (t44 : Int) : z3d q0z t43 b0 q0m (n + 1) t44 = z45 q0z t43 b0 q0m  t44  (fun t44' => z3d q0z t43 b0 q0m n t44') (fun _ => some (Sum.inl ())) (fun c0_ c1_ => some (Sum.inr (c0_, c1_))) := rfl
noncomputable def z4t (q0z : Nat) (t43 : Int) (b0 : List Nat) (q0m : Nat) (t44 : Int) : Bool := (z3d q0z t43 b0 q0m big t44).isSome
noncomputable def z4n (q0z : Nat) (t43 : Int) (b0 : List Nat) (q0m : Nat) (t44 : Int) : Bool := oL (z3d q0z t43 b0 q0m big t44)
noncomputable def z7e (q0z : Nat) (t43 : Int) (b0 : List Nat) (q0m : Nat) (t44 : Int) : Int := ((tR (z3d q0z t43 b0 q0m big t44)).getD default).1
noncomputable def z7h (q0z : Nat) (t43 : Int) (b0 : List Nat) (q0m : Nat) (t44 : Int) : Bool := ((tR (z3d q0z t43 b0 q0m big t44)).getD default).2
theorem zbt {q0z : Nat} {t43 : Int} {b0 : List Nat} {q0m : Nat} {t44 : Int} {m : Nat} {r : Unit} (hm : m = big) (h : z3d q0z t43 b0 q0m m t44 = some (Sum.inl r)) : z4t q0z t43 b0 q0m t44 = true ∧ z4n q0z t43 b0 q0m t44 = true := by
  subst hm
  unfold z4t z4n
  rw [h]
  exact ⟨rfl, rfl⟩
theorem zc2 {q0z : Nat} {t43 : Int} {b0 : List Nat} {q0m : Nat} {t44 : Int} {m : Nat} {r : Int × Bool} (hm : m = big) (h : z3d q0z t43 b0 q0m m t44 = some (Sum.inr r)) : z4t q0z t43 b0 q0m t44 = true ∧ z4n q0z t43 b0 q0m t44 = false ∧ z7e q0z t43 b0 q0m t44 = r.1 ∧ z7h q0z t43 b0 q0m t44 = r.2 := by
  subst hm
  unfold z4t z4n z7e z7h
  rw [h]
  exact ⟨rfl, rfl, rfl, rfl⟩
noncomputable def z5e {R : Type} (q00 : Nat) (q01 : List Nat) (q0c : Nat) (q0d : List Nat) (q0b : Nat) (q0e : List Nat) (k_ : Bool → Option R) : Option R := (br (ltI (Int.ofNat q00) 2) (k_ Bool.false) (br (ltI 24 (Int.ofNat q00)) (k_ Bool.false) (br (neI (Int.ofNat q0c) (Int.ofNat q00)) (k_ Bool.false) (br (neI (Int.ofNat q0b) (Int.ofNat q00)) (k_ Bool.false) (grd (z9v q0c (pF q0d 0 (muN q0c 1))) (br (bnot (z93 q0c (pF q0d 0 (muN q0c 1)))) (k_ Bool.false) (grd (za4 q0b (pF q0e 0 (muN q0b 1))) (br (bnot (z9x q0b (pF q0e 0 (muN q0b 1)))) (k_ Bool.false) (grd (z4t q00 (Int.ofNat q00) q01 q00 0) (br (z4n q00 (Int.ofNat q00) q01 q00 0) (k_ Bool.false) (k_ Bool.true)))))))))))
noncomputable def z5f (q00 : Nat) (q01 : List Nat) (q0c : Nat) (q0d : List Nat) (q0b : Nat) (q0e : List Nat) : Option (Bool) := z5e q00 q01 q0c q0d q0b q0e (fun c0_ => some c0_)
theorem zc4 {R R' : Type} (o : Option R → Option R') (h0 : o none = none) (q00 : Nat) (q01 : List Nat) (q0c : Nat) (q0d : List Nat) (q0b : Nat) (q0e : List Nat) (k_ : Bool → Option R) : z5e q00 q01 q0c q0d q0b q0e (fun c0_ => o (k_ c0_)) = o (z5e q00 q01 q0c q0d q0b q0e k_) := by
  unfold z5e
  repeat (first | refine grd_out h0 ?_ | refine br_out ?_ ?_ | rfl | exact h0.symm)
noncomputable def z6e (q00 : Nat) (q01 : List Nat) (q0c : Nat) (q0d : List Nat) (q0b : Nat) (q0e : List Nat) : Bool := (z5f q00 q01 q0c q0d q0b q0e).isSome
noncomputable def z5v (q00 : Nat) (q01 : List Nat) (q0c : Nat) (q0d : List Nat) (q0b : Nat) (q0e : List Nat) : Bool := ((z5f q00 q01 q0c q0d q0b q0e).getD default)
theorem zb9 {q00 : Nat} {q01 : List Nat} {q0c : Nat} {q0d : List Nat} {q0b : Nat} {q0e : List Nat} {r : Bool} (h : z5f q00 q01 q0c q0d q0b q0e = some r) : z6e q00 q01 q0c q0d q0b q0e = true ∧ z5v q00 q01 q0c q0d q0b q0e = r := by
  unfold z6e z5v
  rw [h]
  exact ⟨rfl, rfl⟩
noncomputable def z66 {R : Type} (q02 : Nat) (q06 : List Nat) (q03 : Nat) (q09 : List Nat) (q04 : Nat) (q0a : List Nat) (q0q : Nat) (q0t : List Nat) (q0f : Nat) (k_ : Nat → Option R) : Option R := (grd (z6x q02 (pF q06 0 (muN q02 1)) q03 (pF q09 0 (muN q03 1)) q04 (pF q0a 0 (muN q04 1)) q0f) (br (fcmp BinOp.neq FloatKind.f32 (z4c q02 (pF q06 0 (muN q02 1)) q03 (pF q09 0 (muN q03 1)) q04 (pF q0a 0 (muN q04 1)) q0f) (z4w q02 (pF q06 0 (muN q02 1)) q03 (pF q09 0 (muN q03 1)) q04 (pF q0a 0 (muN q04 1)) q0f)) (grd (okIx (z40 q02 (pF q06 0 (muN q02 1)) q03 (pF q09 0 (muN q03 1)) q04 (pF q0a 0 (muN q04 1)) q0f) q0q) (grd (okIx (z41 q02 (pF q06 0 (muN q02 1)) q03 (pF q09 0 (muN q03 1)) q04 (pF q0a 0 (muN q04 1)) q0f) q0q) (grd (zak (gF q0t (ixO 0 (z40 q02 (pF q06 0 (muN q02 1)) q03 (pF q09 0 (muN q03 1)) q04 (pF q0a 0 (muN q04 1)) q0f) 1)) (gF q0t (ixO 0 (z41 q02 (pF q06 0 (muN q02 1)) q03 (pF q09 0 (muN q03 1)) q04 (pF q0a 0 (muN q04 1)) q0f) 1)) (fop BinOp.quo FloatKind.f32 (fop BinOp.sub FloatKind.f32 (z57 q02 (pF q06 0 (muN q02 1)) q03 (pF q09 0 (muN q03 1)) q04 (pF q0a 0 (muN q04 1)) q0f) (z4c q02 (pF q06 0 (muN q02 1)) q03 (pF q09 0 (muN q03 1)) q04 (pF q0a 0 (muN q04 1)) q0f)) (fop BinOp.sub FloatKind.f32 (z4w q02 (pF q06 0 (muN q02 1)) q03 (pF q09 0 (muN q03 1)) q04 (pF q0a 0 (muN q04 1)) q0f) (z4c q02 (pF q06 0 (muN q02 1)) q03 (pF q09 0 (muN q03 1)) q04 (pF q0a 0 (muN q04 1)) q0f)))) (k_ (za1 (gF q0t (ixO 0 (z40 q02 (pF q06 0 (muN q02 1)) q03 (pF q09 0 (muN q03 1)) q04 (pF q0a 0 (muN q04 1)) q0f) 1)) (gF q0t (ixO 0 (z41 q02 (pF q06 0 (muN q02 1)) q03 (pF q09 0 (muN q03 1)) q04 (pF q0a 0 (muN q04 1)) q0f) 1)) (fop BinOp.quo FloatKind.f32 (fop BinOp.sub FloatKind.f32 (z57 q02 (pF q06 0 (muN q02 1)) q03 (pF q09 0 (muN q03 1)) q04 (pF q0a 0 (muN q04 1)) q0f) (z4c q02 (pF q06 0 (muN q02 1)) q03 (pF q09 0 (muN q03 1)) q04 (pF q0a 0 (muN q04 1)) q0f)) (fop BinOp.sub FloatKind.f32 (z4w q02 (pF q06 0 (muN q02 1)) q03 (pF q09 0 (muN q03 1)) q04 (pF q0a 0 (muN q04 1)) q0f) (z4c q02 (pF q06 0 (muN q02 1)) q03 (pF q09 0 (muN q03 1)) q04 (pF q0a 0 (muN q04 1)) q0f)))))))) (grd (okIx (z40 q02 (pF q06 0 (muN q02 1)) q03 (pF q09 0 (muN q03 1)) q04 (pF q0a 0 (muN q04 1)) q0f) q0q) (grd (okIx (z41 q02 (pF q06 0 (muN q02 1)) q03 (pF q09 0 (muN q03 1)) q04 (pF q0a 0 (muN q04 1)) q0f) q0q) (grd (zak (gF q0t (ixO 0 (z40 q02 (pF q06 0 (muN q02 1)) q03 (pF q09 0 (muN q03 1)) q04 (pF q0a 0 (muN q04 1)) q0f) 1)) (gF q0t (ixO 0 (z41 q02 (pF q06 0 (muN q02 1)) q03 (pF q09 0 (muN q03 1)) q04 (pF q0a 0 (muN q04 1)) q0f) 1)) 0) (k_ (za1 (gF q0t (ixO 0 (z40 q02 (pF q06 0 (muN q02 1)) q03 (pF q09 0 (muN q03 1)) q04 (pF q0a 0 (muN q04 1)) q0f) 1)) (gF q0t (ixO 0 (z41 q02 (pF q06 0 (muN q02 1)) q03 (pF q09 0 (muN q03 1)) q04 (pF q0a 0 (muN q04 1)) q0f) 1)) 0)))))))
noncomputable def z65 (q02 : Nat) (q06 : List Nat) (q03 : Nat) (q09 : List Nat) (q04 : Nat) (q0a : List Nat) (q0q : Nat) (q0t : List Nat) (q0f : Nat) : Option (Nat) := z66 q02 q06 q03 q09 q04 q0a q0q q0t q0f (fun c0_ => some c0_)
theorem zcs {R R' : Type} (o : Option R → Option R') (h0 : o none = none) (q02 : Nat) (q06 : List Nat) (q03 : Nat) (q09 : List Nat) (q04 : Nat) (q0a : List Nat) (q0q : Nat) (q0t : List Nat) (q0f : Nat) (k_ : Nat → Option R) : z66 q02 q06 q03 q09 q04 q0a q0q q0t q0f (fun c0_ => o (k_ c0_)) = o (z66 q02 q06 q03 q09 q04 q0a q0q q0t q0f k_) := by
  unfold z66
  repeat (first | refine grd_out h0 ?_ | refine br_out ?_ ?_ | rfl | exact h0.symm)
noncomputable def z7a (q02 : Nat) (q06 : List Nat) (q03 : Nat) (q09 : List Nat) (q04 : Nat) (q0a : List Nat) (q0q : Nat) (q0t : List Nat) (q0f : Nat) : Bool := (z65 q02 q06 q03 q09 q04 q0a q0q q0t q0f).isSome
noncomputable def z4p (q02 : Nat) (q06 : List Nat) (q03 : Nat) (q09 : List Nat) (q04 : Nat) (q0a : List Nat) (q0q : Nat) (q0t : List Nat) (q0f : Nat) : Nat := ((z65 q02 q06 q03 q09 q04 q0a q0q q0t q0f).getD default)
theorem zbf {q02 : Nat} {q06 : List Nat} {q03 : Nat} {q09 : List Nat} {q04 : Nat} {q0a : List Nat} {q0q : Nat} {q0t : List Nat} {q0f : Nat} {r : Nat} (h : z65 q02 q06 q03 q09 q04 q0a q0q q0t q0f = some r) : z7a q02 q06 q03 q09 q04 q0a q0q q0t q0f = true ∧ z4p q02 q06 q03 q09 q04 q0a q0q q0t q0f = r := by
  unfold z7a z4p
  rw [h]
  exact ⟨rfl, rfl⟩
noncomputable def z9g {R : Type} (q02 : Nat) (q06 : List Nat) (q03 : Nat) (q09 : List Nat) (q04 : Nat) (q0a : List Nat) (q0q : Nat) (q0t : List Nat) (q0f : Nat) (k_ : Nat → Option R) : Option R := (grd (zau q02 (pF q06 0 (muN q02 1)) q03 (pF q09 0 (muN q03 1)) q04 (pF q0a 0 (muN q04 1)) q0f) (grd (okIx (z5u q02 (pF q06 0 (muN q02 1)) q03 (pF q09 0 (muN q03 1)) q04 (pF q0a 0 (muN q04 1)) q0f) q0q) (grd (okIx (z8p q02 (pF q06 0 (muN q02 1)) q03 (pF q09 0 (muN q03 1)) q04 (pF q0a 0 (muN q04 1)) q0f) q0q) (grd (okIx (z5u q02 (pF q06 0 (muN q02 1)) q03 (pF q09 0 (muN q03 1)) q04 (pF q0a 0 (muN q04 1)) q0f) q0q) (k_ (fop BinOp.add FloatKind.f32 (gF q0t (ixO 0 (z5u q02 (pF q06 0 (muN q02 1)) q03 (pF q09 0 (muN q03 1)) q04 (pF q0a 0 (muN q04 1)) q0f) 1)) (fop BinOp.mul FloatKind.f32 (zaa q02 (pF q06 0 (muN q02 1)) q03 (pF q09 0 (muN q03 1)) q04 (pF q0a 0 (muN q04 1)) q0f) (fop BinOp.sub FloatKind.f32 (gF q0t (ixO 0 (z8p q02 (pF q06 0 (muN q02 1)) q03 (pF q09 0 (muN q03 1)) q04 (pF q0a 0 (muN q04 1)) q0f) 1)) (gF q0t (ixO 0 (z5u q02 (pF q06 0 (muN q02 1)) q03 (pF q09 0 (muN q03 1)) q04 (pF q0a 0 (muN q04 1)) q0f) 1))))))))))
noncomputable def z9i (q02 : Nat) (q06 : List Nat) (q03 : Nat) (q09 : List Nat) (q04 : Nat) (q0a : List Nat) (q0q : Nat) (q0t : List Nat) (q0f : Nat) : Option (Nat) := z9g q02 q06 q03 q09 q04 q0a q0q q0t q0f (fun c0_ => some c0_)
theorem zf0 {R R' : Type} (o : Option R → Option R') (h0 : o none = none) (q02 : Nat) (q06 : List Nat) (q03 : Nat) (q09 : List Nat) (q04 : Nat) (q0a : List Nat) (q0q : Nat) (q0t : List Nat) (q0f : Nat) (k_ : Nat → Option R) : z9g q02 q06 q03 q09 q04 q0a q0q q0t q0f (fun c0_ => o (k_ c0_)) = o (z9g q02 q06 q03 q09 q04 q0a q0q q0t q0f k_) := by
  unfold z9g
  repeat (first | refine grd_out h0 ?_ | refine br_out ?_ ?_ | rfl | exact h0.symm)
noncomputable def zad (q02 : Nat) (q06 : List Nat) (q03 : Nat) (q09 : List Nat) (q04 : Nat) (q0a : List Nat) (q0q : Nat) (q0t : List Nat) (q0f : Nat) : Bool := (z9i q02 q06 q03 q09 q04 q0a q0q q0t q0f).isSome
noncomputable def z9z (q02 : Nat) (q06 : List Nat) (q03 : Nat) (q09 : List Nat) (q04 : Nat) (q0a : List Nat) (q0q : Nat) (q0t : List Nat) (q0f : Nat) : Nat := ((z9i q02 q06 q03 q09 q04 q0a q0q q0t q0f).getD default)
theorem zdi {q02 : Nat} {q06 : List Nat} {q03 : Nat} {q09 : List Nat} {q04 : Nat} {q0a : List Nat} {q0q : Nat} {q0t : List Nat} {q0f : Nat} {r : Nat} (h : z9i q02 q06 q03 q09 q04 q0a q0q q0t q0f = some r) : zad q02 q06 q03 q09 q04 q0a q0q q0t q0f = true ∧ z9z q02 q06 q03 q09 q04 q0a q0q q0t q0f = r := by
  unfold zad z9z
  rw [h]
  exact ⟨rfl, rfl⟩
noncomputable def z8f {R : Type} (q02 : Nat) (q06 : List Nat) (q03 : Nat) (q09 : List Nat) (q04 : Nat) (q0a : List Nat) (q0f : Nat) (k_ : Nat → Bool → Option R) : Option R := (grd (z6e q02 (pF q06 0 (muN q02 1)) q03 (pF q09 0 (muN q03 1)) q04 (pF q0a 0 (muN q04 1))) (br (bnot (z5v q02 (pF q06 0 (muN q02 1)) q03 (pF q09 0 (muN q03 1)) q04 (pF q0a 0 (muN q04 1)))) (k_ 0 Bool.false) (grd (z5b q0f) (br (bnot (z52 q0f)) (k_ 0 Bool.false) (grd (z7a q02 (pF q06 0 (muN q02 1)) q03 (pF q09 0 (muN q03 1)) q04 (pF q0a 0 (muN q04 1)) q04 (pF q0a 0 (muN q04 1)) q0f) (grd (z7v (z4p q02 (pF q06 0 (muN q02 1)) q03 (pF q09 0 (muN q03 1)) q04 (pF q0a 0 (muN q04 1)) q04 (pF q0a 0 (muN q04 1)) q0f)) (k_ (z6y (z4p q02 (pF q06 0 (muN q02 1)) q03 (pF q09 0 (muN q03 1)) q04 (pF q0a 0 (muN q04 1)) q04 (pF q0a 0 (muN q04 1)) q0f)) (z72 (z4p q02 (pF q06 0 (muN q02 1)) q03 (pF q09 0 (muN q03 1)) q04 (pF q0a 0 (muN q04 1)) q04 (pF q0a 0 (muN q04 1)) q0f)))))))))
noncomputable def z77 (q02 : Nat) (q06 : List Nat) (q03 : Nat) (q09 : List Nat) (q04 : Nat) (q0a : List Nat) (q0f : Nat) : Option (Nat × Bool) := z8f q02 q06 q03 q09 q04 q0a q0f (fun c0_ c1_ => some (c0_, c1_))
theorem zeb {R R' : Type} (o : Option R → Option R') (h0 : o none = none) (q02 : Nat) (q06 : List Nat) (q03 : Nat) (q09 : List Nat) (q04 : Nat) (q0a : List Nat) (q0f : Nat) (k_ : Nat → Bool → Option R) : z8f q02 q06 q03 q09 q04 q0a q0f (fun c0_ c1_ => o (k_ c0_ c1_)) = o (z8f q02 q06 q03 q09 q04 q0a q0f k_) := by
  unfold z8f
  repeat (first | refine grd_out h0 ?_ | refine br_out ?_ ?_ | rfl | exact h0.symm)
noncomputable def zb2 (q02 : Nat) (q06 : List Nat) (q03 : Nat) (q09 : List Nat) (q04 : Nat) (q0a : List Nat) (q0f : Nat) : Bool := (z77 q02 q06 q03 q09 q04 q0a q0f).isSome
noncomputable def z7t (q02 : Nat) (q06 : List Nat) (q03 : Nat) (q09 : List Nat) (q04 : Nat) (q0a : List Nat) (q0f : Nat) : Nat := ((z77 q02 q06 q03 q09 q04 q0a q0f).getD default).1
noncomputable def zaq (q02 : Nat) (q06 : List Nat) (q03 : Nat) (q09 : List Nat) (q04 : Nat) (q0a : List Nat) (q0f : Nat) : Bool := ((z77 q02 q06 q03 q09 q04 q0a q0f).getD default).2
theorem zfr {q02 : Nat} {q06 : List Nat} {q03 : Nat} {q09 : List Nat} {q04 : Nat} {q0a : List Nat} {q0f : Nat} {r : Nat × Bool} (h : z77 q02 q06 q03 q09 q04 q0a q0f = some r) : zb2 q02 q06 q03 q09 q04 q0a q0f = true ∧ z7t q02 q06 q03 q09 q04 q0a q0f = r.1 ∧ zaq q02 q06 q03 q09 q04 q0a q0f = r.2 := by
  unfold zb2 z7t zaq
  rw [h]
  exact ⟨rfl, rfl, rfl⟩
noncomputable def z8d {R : Type} (q02 : Nat) (q06 : List Nat) (q03 : Nat) (q09 : List Nat) (q04 : Nat) (q0a : List Nat) (q0f : Nat) (k_ : Nat → Bool → Option R) : Option R := (grd (z6e q02 (pF q06 0 (muN q02 1)) q03 (pF q09 0 (muN q03 1)) q04 (pF q0a 0 (muN q04 1))) (br (bnot (z5v q02 (pF q06 0 (muN q02 1)) q03 (pF q09 0 (muN q03 1)) q04 (pF q0a 0 (muN q04 1)))) (k_ 0 Bool.false) (grd (z5b q0f) (br (bnot (z52 q0f)) (k_ 0 Bool.false) (grd (z7a q02 (pF q06 0 (muN q02 1)) q03 (pF q09 0 (muN q03 1)) q04 (pF q0a 0 (muN q04 1)) q03 (pF q09 0 (muN q03 1)) q0f) (grd (z7v (z4p q02 (pF q06 0 (muN q02 1)) q03 (pF q09 0 (muN q03 1)) q04 (pF q0a 0 (muN q04 1)) q03 (pF q09 0 (muN q03 1)) q0f)) (k_ (z6y (z4p q02 (pF q06 0 (muN q02 1)) q03 (pF q09 0 (muN q03 1)) q04 (pF q0a 0 (muN q04 1)) q03 (pF q09 0 (muN q03 1)) q0f)) (z72 (z4p q02 (pF q06 0 (muN q02 1)) q03 (pF q09 0 (muN q03 1)) q04 (pF q0a 0 (muN q04 1)) q03 (pF q09 0 (muN q03 1)) q0f)))))))))
noncomputable def z78 (q02 : Nat) (q06 : List Nat) (q03 : Nat) (q09 : List Nat) (q04 : Nat) (q0a : List Nat) (q0f : Nat) : Option (Nat × Bool) := z8d q02 q06 q03 q09 q04 q0a q0f (fun c0_ c1_ => some (c0_, c1_))
theorem zej {R R' : Type} (o : Option R → Option R') (h0 : o none = none) (q02 : Nat) (q06 : List Nat) (q03 : Nat) (q09 : List Nat) (q04 : Nat) (q0a : List Nat) (q0f : Nat) (k_ : Nat → Bool → Option R) : z8d q02 q06 q03 q09 q04 q0a q0f (fun c0_ c1_ => o (k_ c0_ c1_)) = o (z8d q02 q06 q03 q09 q04 q0a q0f k_) := by
  unfold z8d
  repeat (first | refine grd_out h0 ?_ | refine br_out ?_ ?_ | rfl | exact h0.symm)
noncomputable def zb1 (q02 : Nat) (q06 : List Nat) (q03 : Nat) (q09 : List Nat) (q04 : Nat) (q0a : List Nat) (q0f : Nat) : Bool := (z78 q02 q06 q03 q09 q04 q0a q0f).isSome
noncomputable def z7w (q02 : Nat) (q06 : List Nat) (q03 : Nat) (q09 : List Nat) (q04 : Nat) (q0a : List Nat) (q0f : Nat) : Nat := ((z78 q02 q06 q03 q09 q04 q0a q0f).getD default).1
noncomputable def zav (q02 : Nat) (q06 : List Nat) (q03 : Nat) (q09 : List Nat) (q04 : Nat) (q0a : List Nat) (q0f : Nat) : Bool := ((z78 q02 q06 q03 q09 q04 q0a q0f).getD default).2
theorem zfn {q02 : Nat} {q06 : List Nat} {q03 : Nat} {q09 : List Nat} {q04 : Nat} {q0a : List Nat} {q0f : Nat} {r : Nat × Bool} (h : z78 q02 q06 q03 q09 q04 q0a q0f = some r) : zb1 q02 q06 q03 q09 q04 q0a q0f = true ∧ z7w q02 q06 q03 q09 q04 q0a q0f = r.1 ∧ zav q02 q06 q03 q09 q04 q0a q0f = r.2 := by
  unfold zb1 z7w zav
  rw [h]
  exact ⟨rfl, rfl, rfl⟩
noncomputable def z7l {R : Type} (q02 : Nat) (q06 : List Nat) (q03 : Nat) (q09 : List Nat) (q04 : Nat) (q0a : List Nat) (q0f : Nat) (k_ : Nat → Option R) : Option R := (grd (zad q02 (pF q06 0 (muN q02 1)) q03 (pF q09 0 (muN q03 1)) q04 (pF q0a 0 (muN q04 1)) q04 (pF q0a 0 (muN q04 1)) q0f) (k_ (z9z q02 (pF q06 0 (muN q02 1)) q03 (pF q09 0 (muN q03 1)) q04 (pF q0a 0 (muN q04 1)) q04 (pF q0a 0 (muN q04 1)) q0f)))
noncomputable def z7r (q02 : Nat) (q06 : List Nat) (q03 : Nat) (q09 : List Nat) (q04 : Nat) (q0a : List Nat) (q0f : Nat) : Option (Nat) := z7l q02 q06 q03 q09 q04 q0a q0f (fun c0_ => some c0_)
theorem zdr {R R' : Type} (o : Option R → Option R') (h0 : o none = none) (q02 : Nat) (q06 : List Nat) (q03 : Nat) (q09 : List Nat) (q04 : Nat) (q0a : List Nat) (q0f : Nat) (k_ : Nat → Option R) : z7l q02 q06 q03 q09 q04 q0a q0f (fun c0_ => o (k_ c0_)) = o (z7l q02 q06 q03 q09 q04 q0a q0f k_) := by
  unfold z7l
  repeat (first | refine grd_out h0 ?_ | refine br_out ?_ ?_ | rfl | exact h0.symm)
noncomputable def zao (q02 : Nat) (q06 : List Nat) (q03 : Nat) (q09 : List Nat) (q04 : Nat) (q0a : List Nat) (q0f : Nat) : Bool := (z7r q02 q06 q03 q09 q04 q0a q0f).isSome
noncomputable def z5a (q02 : Nat) (q06 : List Nat) (q03 : Nat) (q09 : List Nat) (q04 : Nat) (q0a : List Nat) (q0f : Nat) : Nat := ((z7r q02 q06 q03 q09 q04 q0a q0f).getD default)
theorem zfg {q02 : Nat} {q06 : List Nat} {q03 : Nat} {q09 : List Nat} {q04 : Nat} {q0a : List Nat} {q0f : Nat} {r : Nat} (h : z7r q02 q06 q03 q09 q04 q0a q0f = some r) : zao q02 q06 q03 q09 q04 q0a q0f = true ∧ z5a q02 q06 q03 q09 q04 q0a q0f = r := by
  unfold zao z5a
  rw [h]
  exact ⟨rfl, rfl⟩
noncomputable def z7m {R : Type} (q02 : Nat) (q06 : List Nat) (q03 : Nat) (q09 : List Nat) (q04 : Nat) (q0a : List Nat) (q0f : Nat) (k_ : Nat → Option R) : Option R := (grd (zad q02 (pF q06 0 (muN q02 1)) q03 (pF q09 0 (muN q03 1)) q04 (pF q0a 0 (muN q04 1)) q03 (pF q09 0 (muN q03 1)) q0f) (k_ (z9z q02 (pF q06 0 (muN q02 1)) q03 (pF q09 0 (muN q03 1)) q04 (pF q0a 0 (muN q04 1)) q03 (pF q09 0 (muN q03 1)) q0f)))
noncomputable def z7n (q02 : Nat) (q06 : List Nat) (q03 : Nat) (q09 : List Nat) (q04 : Nat) (q0a : List Nat) (q0f : Nat) : Option (Nat) := z7m q02 q06 q03 q09 q04 q0a q0f (fun c0_ => some c0_)
theorem ze4 {R R' : Type} (o : Option R → Option R') (h0 : o none = none) (q02 : Nat) (q06 : List Nat) (q03 : Nat) (q09 : List Nat) (q04 : Nat) (q0a : List Nat) (q0f : Nat) (k_ : Nat → Option R) : z7m q02 q06 q03 q09 q04 q0a q0f (fun c0_ => o (k_ c0_)) = o (z7m q02 q06 q03 q09 q04 q0a q0f k_) := by
  unfold z7m
  repeat (first | refine grd_out h0 ?_ | refine br_out ?_ ?_ | rfl | exact h0.symm)
noncomputable def zan (q02 : Nat) (q06 : List Nat) (q03 : Nat) (q09 : List Nat) (q04 : Nat) (q0a : List Nat) (q0f : Nat) : Bool := (z7n q02 q06 q03 q09 q04 q0a q0f).isSome
noncomputable def z5c (q02 : Nat) (q06 : List Nat) (q03 : Nat) (q09 : List Nat) (q04 : Nat) (q0a : List Nat) (q0f : Nat) : Nat := ((z7n q02 q06 q03 q09 q04 q0a q0f).getD default)
theorem zfi {q02 : Nat} {q06 : List Nat} {q03 : Nat} {q09 : List Nat} {q04 : Nat} {q0a : List Nat} {q0f : Nat} {r : Nat} (h : z7n q02 q06 q03 q09 q04 q0a q0f = some r) : zan q02 q06 q03 q09 q04 q0a q0f = true ∧ z5c q02 q06 q03 q09 q04 q0a q0f = r := by
  unfold zan z5c
  rw [h]
  exact ⟨rfl, rfl⟩
noncomputable def z7q {R : Type} (q02 : Nat) (q06 : List Nat) (q03 : Nat) (q09 : List Nat) (q04 : Nat) (q0a : List Nat) (q0f : Nat) (k_ : Nat → Bool → Option R) : Option R := (grd (zb4 q02 (pF q06 0 (muN q02 1)) q03 (pF q09 0 (muN q03 1)) q04 (pF q0a 0 (muN q04 1)) q0f) (br (bnot (zas q02 (pF q06 0 (muN q02 1)) q03 (pF q09 0 (muN q03 1)) q04 (pF q0a 0 (muN q04 1)) q0f)) (k_ 0 Bool.false) (grd (zan q02 (pF q06 0 (muN q02 1)) q03 (pF q09 0 (muN q03 1)) q04 (pF q0a 0 (muN q04 1)) q0f) (grd (zao q02 (pF q06 0 (muN q02 1)) q03 (pF q09 0 (muN q03 1)) q04 (pF q0a 0 (muN q04 1)) q0f) (grd (z4b (z5c q02 (pF q06 0 (muN q02 1)) q03 (pF q09 0 (muN q03 1)) q04 (pF q0a 0 (muN q04 1)) q0f)) (br (bnot (z44 (z5c q02 (pF q06 0 (muN q02 1)) q03 (pF q09 0 (muN q03 1)) q04 (pF q0a 0 (muN q04 1)) q0f))) (k_ 0 Bool.false) (grd (z4b (z5a q02 (pF q06 0 (muN q02 1)) q03 (pF q09 0 (muN q03 1)) q04 (pF q0a 0 (muN q04 1)) q0f)) (br (bnot (z44 (z5a q02 (pF q06 0 (muN q02 1)) q03 (pF q09 0 (muN q03 1)) q04 (pF q0a 0 (muN q04 1)) q0f))) (k_ 0 Bool.false) (grd (z9y (fop BinOp.quo FloatKind.f32 (z5c q02 (pF q06 0 (muN q02 1)) q03 (pF q09 0 (muN q03 1)) q04 (pF q0a 0 (muN q04 1)) q0f) (z5a q02 (pF q06 0 (muN q02 1)) q03 (pF q09 0 (muN q03 1)) q04 (pF q0a 0 (muN q04 1)) q0f))) (k_ (z96 (fop BinOp.quo FloatKind.f32 (z5c q02 (pF q06 0 (muN q02 1)) q03 (pF q09 0 (muN q03 1)) q04 (pF q0a 0 (muN q04 1)) q0f) (z5a q02 (pF q06 0 (muN q02 1)) q03 (pF q09 0 (muN q03 1)) q04 (pF q0a 0 (muN q04 1)) q0f))) (z94 (fop BinOp.quo FloatKind.f32 (z5c q02 (pF q06 0 (muN q02 1)) q03 (pF q09 0 (muN q03 1)) q04 (pF q0a 0 (muN q04 1)) q0f) (z5a q02 (pF q06 0 (muN q02 1)) q03 (pF q09 0 (muN q03 1)) q04 (pF q0a 0 (muN q04 1)) q0f)))))))))))))
noncomputable def z6k (q02 : Nat) (q06 : List Nat) (q03 : Nat) (q09 : List Nat) (q04 : Nat) (q0a : List Nat) (q0f : Nat) : Option (Nat × Bool) := z7q q02 q06 q03 q09 q04 q0a q0f (fun c0_ c1_ => some (c0_, c1_))
theorem zdx {R R' : Type} (o : Option R → Option R') (h0 : o none = none) (q02 : Nat) (q06 : List Nat) (q03 : Nat) (q09 : List Nat) (q04 : Nat) (q0a : List Nat) (q0f : Nat) (k_ : Nat → Bool → Option R) : z7q q02 q06 q03 q09 q04 q0a q0f (fun c0_ c1_ => o (k_ c0_ c1_)) = o (z7q q02 q06 q03 q09 q04 q0a q0f k_) := by
  unfold z7q
  repeat (first | refine grd_out h0 ?_ | refine br_out ?_ ?_ | rfl | exact h0.symm)
noncomputable def zar (q02 : Nat) (q06 : List Nat) (q03 : Nat) (q09 : List Nat) (q04 : Nat) (q0a : List Nat) (q0f : Nat) : Bool := (z6k q02 q06 q03 q09 q04 q0a q0f).isSome
noncomputable def z8h (q02 : Nat) (q06 : List Nat) (q03 : Nat) (q09 : List Nat) (q04 : Nat) (q0a : List Nat) (q0f : Nat) : Nat := ((z6k q02 q06 q03 q09 q04 q0a q0f).getD default).1
noncomputable def za8 (q02 : Nat) (q06 : List Nat) (q03 : Nat) (q09 : List Nat) (q04 : Nat) (q0a : List Nat) (q0f : Nat) : Bool := ((z6k q02 q06 q03 q09 q04 q0a q0f).getD default).2
theorem zfc {q02 : Nat} {q06 : List Nat} {q03 : Nat} {q09 : List Nat} {q04 : Nat} {q0a : List Nat} {q0f : Nat} {r : Nat × Bool} (h : z6k q02 q06 q03 q09 q04 q0a q0f = some r) : zar q02 q06 q03 q09 q04 q0a q0f = true ∧ z8h q02 q06 q03 q09 q04 q0a q0f = r.1 ∧ za8 q02 q06 q03 q09 q04 q0a q0f = r.2 := by
  unfold zar z8h za8
  rw [h]
  exact ⟨rfl, rfl, rfl⟩
noncomputable def z7k {R : Type} (q02 : Nat) (q06 : List Nat) (q03 : Nat) (q09 : List Nat) (q04 : Nat) (q0a : List Nat) (q0f : Nat) (k_ : Nat → Bool → Option R) : Option R := (grd (zb1 q02 (pF q06 0 (muN q02 1)) q03 (pF q09 0 (muN q03 1)) q04 (pF q0a 0 (muN q04 1)) q0f) (grd (zb2 q02 (pF q06 0 (muN q02 1)) q03 (pF q09 0 (muN q03 1)) q04 (pF q0a 0 (muN q04 1)) q0f) (br (bnot (zav q02 (pF q06 0 (muN q02 1)) q03 (pF q09 0 (muN q03 1)) q04 (pF q0a 0 (muN q04 1)) q0f)) (k_ 0 Bool.false) (br (bnot (zaq q02 (pF q06 0 (muN q02 1)) q03 (pF q09 0 (muN q03 1)) q04 (pF q0a 0 (muN q04 1)) q0f)) (k_ 0 Bool.false) (grd (z7v (fop BinOp.quo FloatKind.f32 (z7w q02 (pF q06 0 (muN q02 1)) q03 (pF q09 0 (muN q03 1)) q04 (pF q0a 0 (muN q04 1)) q0f) (z7t q02 (pF q06 0 (muN q02 1)) q03 (pF q09 0 (muN q03 1)) q04 (pF q0a 0 (muN q04 1)) q0f))) (k_ (z6y (fop BinOp.quo FloatKind.f32 (z7w q02 (pF q06 0 (muN q02 1)) q03 (pF q09 0 (muN q03 1)) q04 (pF q0a 0 (muN q04 1)) q0f) (z7t q02 (pF q06 0 (muN q02 1)) q03 (pF q09 0 (muN q03 1)) q04 (pF q0a 0 (muN q04 1)) q0f))) (z72 (fop BinOp.quo FloatKind.f32 (z7w q02 (pF q06 0 (muN q02 1)) q03 (pF q09 0 (muN q03 1)) q04 (pF q0a 0 (muN q04 1)) q0f) (z7t q02 (pF q06 0 (muN q02 1)) q03 (pF q09 0 (muN q03 1)) q04 (pF q0a 0 (muN q04 1)) q0f)))))))))
noncomputable def z6g (q02 : Nat) (q06 : List Nat) (q03 : Nat) (q09 : List Nat) (q04 : Nat) (q0a : List Nat) (q0f : Nat) : Option (Nat × Bool) := z7k q02 q06 q03 q09 q04 q0a q0f (fun c0_ c1_ => some (c0_, c1_))
theorem ze1 {R R' : Type} (o : Option R → Option R') (h0 : o none = none) (q02 : Nat) (q06 : List Nat) (q03 : Nat) (q09 : List Nat) (q04 : Nat) (q0a : List Nat) (q0f : Nat) (k_ : Nat → Bool → Option R) : z7k q02 q06 q03 q09 q04 q0a q0f (fun c0_ c1_ => o (k_ c0_ c1_)) = o (z7k q02 q06 q03 q09 q04 q0a q0f k_) := by
  unfold z7k
  repeat (first | refine grd_out h0 ?_ | refine br_out ?_ ?_ | rfl | exact h0.symm)
noncomputable def zap (q02 : Nat) (q06 : List Nat) (q03 : Nat) (q09 : List Nat) (q04 : Nat) (q0a : List Nat) (q0f : Nat) : Bool := (z6g q02 q06 q03 q09 q04 q0a q0f).isSome
noncomputable def z8s (q02 : Nat) (q06 : List Nat) (q03 : Nat) (q09 : List Nat) (q04 : Nat) (q0a : List Nat) (q0f : Nat) : Nat := ((z6g q02 q06 q03 q09 q04 q0a q0f).getD default).1
noncomputable def zab (q02 : Nat) (q06 : List Nat) (q03 : Nat) (q09 : List Nat) (q04 : Nat) (q0a : List Nat) (q0f : Nat) : Bool := ((z6g q02 q06 q03 q09 q04 q0a q0f).getD default).2
theorem zff {q02 : Nat} {q06 : List Nat} {q03 : Nat} {q09 : List Nat} {q04 : Nat} {q0a : List Nat} {q0f : Nat} {r : Nat × Bool} (h : z6g q02 q06 q03 q09 q04 q0a q0f = some r) : zap q02 q06 q03 q09 q04 q0a q0f = true ∧ z8s q02 q06 q03 q09 q04 q0a q0f = r.1 ∧ zab q02 q06 q03 q09 q04 q0a q0f = r.2 := by
  unfold zap z8s zab
  rw [h]
  exact ⟨rfl, rfl, rfl⟩
noncomputable def z51 {R : Type} (q05 : Nat) (q0h : List Nat) (q07 : Nat) (q0j : List Nat) (q08 : Nat) (q0k : List Nat) (q10 : Nat) (k_ : Bool → Option R) : Option R := (grd (z7x q05 (pF q0h 0 (muN q05 1)) q07 (pF q0j 0 (muN q07 1)) q08 (pF q0k 0 (muN q08 1)) 1048576) (br (ltI (z7c q05 (pF q0h 0 (muN q05 1)) q07 (pF q0j 0 (muN q07 1)) q08 (pF q0k 0 (muN q08 1)) 1048576) 0) (k_ Bool.true) (grd (z5m q05 (pF q0h 0 (muN q05 1)) q07 (pF q0j 0 (muN q07 1)) q08 (pF q0k 0 (muN q08 1))) (grd (zar (z2e q05 (pF q0h 0 (muN q05 1)) q07 (pF q0j 0 (muN q07 1)) q08 (pF q0k 0 (muN q08 1))) (pF (z3k q05 (pF q0h 0 (muN q05 1)) q07 (pF q0j 0 (muN q07 1)) q08 (pF q0k 0 (muN q08 1))) 0 (muN (z2e q05 (pF q0h 0 (muN q05 1)) q07 (pF q0j 0 (muN q07 1)) q08 (pF q0k 0 (muN q08 1))) 1)) (z2f q05 (pF q0h 0 (muN q05 1)) q07 (pF q0j 0 (muN q07 1)) q08 (pF q0k 0 (muN q08 1))) (pF (z3j q05 (pF q0h 0 (muN q05 1)) q07 (pF q0j 0 (muN q07 1)) q08 (pF q0k 0 (muN q08 1))) 0 (muN (z2f q05 (pF q0h 0 (muN q05 1)) q07 (pF q0j 0 (muN q07 1)) q08 (pF q0k 0 (muN q08 1))) 1)) (z2h q05 (pF q0h 0 (muN q05 1)) q07 (pF q0j 0 (muN q07 1)) q08 (pF q0k 0 (muN q08 1))) (pF (z3l q05 (pF q0h 0 (muN q05 1)) q07 (pF q0j 0 (muN q07 1)) q08 (pF q0k 0 (muN q08 1))) 0 (muN (z2h q05 (pF q0h 0 (muN q05 1)) q07 (pF q0j 0 (muN q07 1)) q08 (pF q0k 0 (muN q08 1))) 1)) q10) (grd (z5m q05 (pF q0h 0 (muN q05 1)) q07 (pF q0j 0 (muN q07 1)) q08 (pF q0k 0 (muN q08 1))) (grd (zap (z2e q05 (pF q0h 0 (muN q05 1)) q07 (pF q0j 0 (muN q07 1)) q08 (pF q0k 0 (muN q08 1))) (pF (z3k q05 (pF q0h 0 (muN q05 1)) q07 (pF q0j 0 (muN q07 1)) q08 (pF q0k 0 (muN q08 1))) 0 (muN (z2e q05 (pF q0h 0 (muN q05 1)) q07 (pF q0j 0 (muN q07 1)) q08 (pF q0k 0 (muN q08 1))) 1)) (z2f q05 (pF q0h 0 (muN q05 1)) q07 (pF q0j 0 (muN q07 1)) q08 (pF q0k 0 (muN q08 1))) (pF (z3j q05 (pF q0h 0 (muN q05 1)) q07 (pF q0j 0 (muN q07 1)) q08 (pF q0k 0 (muN q08 1))) 0 (muN (z2f q05 (pF q0h 0 (muN q05 1)) q07 (pF q0j 0 (muN q07 1)) q08 (pF q0k 0 (muN q08 1))) 1)) (z2h q05 (pF q0h 0 (muN q05 1)) q07 (pF q0j 0 (muN q07 1)) q08 (pF q0k 0 (muN q08 1))) (pF (z3l q05 (pF q0h 0 (muN q05 1)) q07 (pF q0j 0 (muN q07 1)) q08 (pF q0k 0 (muN q08 1))) 0 (muN (z2h q05 (pF q0h 0 (muN q05 1)) q07 (pF q0j 0 (muN q07 1)) q08 (pF q0k 0 (muN q08 1))) 1)) q10) (grd (z80 (fcvV FloatKind.f32 FloatKind.f64 (z8s (z2e q05 (pF q0h 0 (muN q05 1)) q07 (pF q0j 0 (muN q07 1)) q08 (pF q0k 0 (muN q08 1))) (pF (z3k q05 (pF q0h 0 (muN q05 1)) q07 (pF q0j 0 (muN q07 1)) q08 (pF q0k 0 (muN q08 1))) 0 (muN (z2e q05 (pF q0h 0 (muN q05 1)) q07 (pF q0j 0 (muN q07 1)) q08 (pF q0k 0 (muN q08 1))) 1)) (z2f q05 (pF q0h 0 (muN q05 1)) q07 (pF q0j 0 (muN q07 1)) q08 (pF q0k 0 (muN q08 1))) (pF (z3j q05 (pF q0h 0 (muN q05 1)) q07 (pF q0j 0 (muN q07 1)) q08 (pF q0k 0 (muN q08 1))) 0 (muN (z2f q05 (pF q0h 0 (muN q05 1)) q07 (pF q0j 0 (muN q07 1)) q08 (pF q0k 0 (muN q08 1))) 1)) (z2h q05 (pF q0h 0 (muN q05 1)) q07 (pF q0j 0 (muN q07 1)) q08 (pF q0k 0 (muN q08 1))) (pF (z3l q05 (pF q0h 0 (muN q05 1)) q07 (pF q0j 0 (muN q07 1)) q08 (pF q0k 0 (muN q08 1))) 0 (muN (z2h q05 (pF q0h 0 (muN q05 1)) q07 (pF q0j 0 (muN q07 1)) q08 (pF q0k 0 (muN q08 1))) 1)) q10)) (fcvV FloatKind.f32 FloatKind.f64 (z8h (z2e q05 (pF q0h 0 (muN q05 1)) q07 (pF q0j 0 (muN q07 1)) q08 (pF q0k 0 (muN q08 1))) (pF (z3k q05 (pF q0h 0 (muN q05 1)) q07 (pF q0j 0 (muN q07 1)) q08 (pF q0k 0 (muN q08 1))) 0 (muN (z2e q05 (pF q0h 0 (muN q05 1)) q07 (pF q0j 0 (muN q07 1)) q08 (pF q0k 0 (muN q08 1))) 1)) (z2f q05 (pF q0h 0 (muN q05 1)) q07 (pF q0j 0 (muN q07 1)) q08 (pF q0k 0 (muN q08 1))) (pF (z3j q05 (pF q0h 0 (muN q05 1)) q07 (pF q0j 0 (muN q07 1)) q08 (pF q0k 0 (muN q08 1))) 0 (muN (z2f q05 (pF q0h 0 (muN q05 1)) q07 (pF q0j 0 (muN q07 1)) q08 (pF q0k 0 (muN q08 1))) 1)) (z2h q05 (pF q0h 0 (muN q05 1)) q07 (pF q0j 0 (muN q07 1)) q08 (pF q0k 0 (muN q08 1))) (pF (z3l q05 (pF q0h 0 (muN q05 1)) q07 (pF q0j 0 (muN q07 1)) q08 (pF q0k 0 (muN q08 1))) 0 (muN (z2h q05 (pF q0h 0 (muN q05 1)) q07 (pF q0j 0 (muN q07 1)) q08 (pF q0k 0 (muN q08 1))) 1)) q10))) (br (bnot (z7d (fcvV FloatKind.f32 FloatKind.f64 (z8s (z2e q05 (pF q0h 0 (muN q05 1)) q07 (pF q0j 0 (muN q07 1)) q08 (pF q0k 0 (muN q08 1))) (pF (z3k q05 (pF q0h 0 (muN q05 1)) q07 (pF q0j 0 (muN q07 1)) q08 (pF q0k 0 (muN q08 1))) 0 (muN (z2e q05 (pF q0h 0 (muN q05 1)) q07 (pF q0j 0 (muN q07 1)) q08 (pF q0k 0 (muN q08 1))) 1)) (z2f q05 (pF q0h 0 (muN q05 1)) q07 (pF q0j 0 (muN q07 1)) q08 (pF q0k 0 (muN q08 1))) (pF (z3j q05 (pF q0h 0 (muN q05 1)) q07 (pF q0j 0 (muN q07 1)) q08 (pF q0k 0 (muN q08 1))) 0 (muN (z2f q05 (pF q0h 0 (muN q05 1)) q07 (pF q0j 0 (muN q07 1)) q08 (pF q0k 0 (muN q08 1))) 1)) (z2h q05 (pF q0h 0 (muN q05 1)) q07 (pF q0j 0 (muN q07 1)) q08 (pF q0k 0 (muN q08 1))) (pF (z3l q05 (pF q0h 0 (muN q05 1)) q07 (pF q0j 0 (muN q07 1)) q08 (pF q0k 0 (muN q08 1))) 0 (muN (z2h q05 (pF q0h 0 (muN q05 1)) q07 (pF q0j 0 (muN q07 1)) q08 (pF q0k 0 (muN q08 1))) 1)) q10)) (fcvV FloatKind.f32 FloatKind.f64 (z8h (z2e q05 (pF q0h 0 (muN q05 1)) q07 (pF q0j 0 (muN q07 1)) q08 (pF q0k 0 (muN q08 1))) (pF (z3k q05 (pF q0h 0 (muN q05 1)) q07 (pF q0j 0 (muN q07 1)) q08 (pF q0k 0 (muN q08 1))) 0 (muN (z2e q05 (pF q0h 0 (muN q05 1)) q07 (pF q0j 0 (muN q07 1)) q08 (pF q0k 0 (muN q08 1))) 1)) (z2f q05 (pF q0h 0 (muN q05 1)) q07 (pF q0j 0 (muN q07 1)) q08 (pF q0k 0 (muN q08 1))) (pF (z3j q05 (pF q0h 0 (muN q05 1)) q07 (pF q0j 0 (muN q07 1)) q08 (pF q0k 0 (muN q08 1))) 0 (muN (z2f q05 (pF q0h 0 (muN q05 1)) q07 (pF q0j 0 (muN q07 1)) q08 (pF q0k 0 (muN q08 1))) 1)) (z2h q05 (pF q0h 0 (muN q05 1)) q07 (pF q0j 0 (muN q07 1)) q08 (pF q0k 0 (muN q08 1))) (pF (z3l q05 (pF q0h 0 (muN q05 1)) q07 (pF q0j 0 (muN q07 1)) q08 (pF q0k 0 (muN q08 1))) 0 (muN (z2h q05 (pF q0h 0 (muN q05 1)) q07 (pF q0j 0 (muN q07 1)) q08 (pF q0k 0 (muN q08 1))) 1)) q10)))) (k_ Bool.false) (br (bnot (beqB (zab (z2e q05 (pF q0h 0 (muN q05 1)) q07 (pF q0j 0 (muN q07 1)) q08 (pF q0k 0 (muN q08 1))) (pF (z3k q05 (pF q0h 0 (muN q05 1)) q07 (pF q0j 0 (muN q07 1)) q08 (pF q0k 0 (muN q08 1))) 0 (muN (z2e q05 (pF q0h 0 (muN q05 1)) q07 (pF q0j 0 (muN q07 1)) q08 (pF q0k 0 (muN q08 1))) 1)) (z2f q05 (pF q0h 0 (muN q05 1)) q07 (pF q0j 0 (muN q07 1)) q08 (pF q0k 0 (muN q08 1))) (pF (z3j q05 (pF q0h 0 (muN q05 1)) q07 (pF q0j 0 (muN q07 1)) q08 (pF q0k 0 (muN q08 1))) 0 (muN (z2f q05 (pF q0h 0 (muN q05 1)) q07 (pF q0j 0 (muN q07 1)) q08 (pF q0k 0 (muN q08 1))) 1)) (z2h q05 (pF q0h 0 (muN q05 1)) q07 (pF q0j 0 (muN q07 1)) q08 (pF q0k 0 (muN q08 1))) (pF (z3l q05 (pF q0h 0 (muN q05 1)) q07 (pF q0j 0 (muN q07 1)) q08 (pF q0k 0 (muN q08 1))) 0 (muN (z2h q05 (pF q0h 0 (muN q05 1)) q07 (pF q0j 0 (muN q07 1)) q08 (pF q0k 0 (muN q08 1))) 1)) q10) (za8 (z2e q05 (pF q0h 0 (muN q05 1)) q07 (pF q0j 0 (muN q07 1)) q08 (pF q0k 0 (muN q08 1))) (pF (z3k q05 (pF q0h 0 (muN q05 1)) q07 (pF q0j 0 (muN q07 1)) q08 (pF q0k 0 (muN q08 1))) 0 (muN (z2e q05 (pF q0h 0 (muN q05 1)) q07 (pF q0j 0 (muN q07 1)) q08 (pF q0k 0 (muN q08 1))) 1)) (z2f q05 (pF q0h 0 (muN q05 1)) q07 (pF q0j 0 (muN q07 1)) q08 (pF q0k 0 (muN q08 1))) (pF (z3j q05 (pF q0h 0 (muN q05 1)) q07 (pF q0j 0 (muN q07 1)) q08 (pF q0k 0 (muN q08 1))) 0 (muN (z2f q05 (pF q0h 0 (muN q05 1)) q07 (pF q0j 0 (muN q07 1)) q08 (pF q0k 0 (muN q08 1))) 1)) (z2h q05 (pF q0h 0 (muN q05 1)) q07 (pF q0j 0 (muN q07 1)) q08 (pF q0k 0 (muN q08 1))) (pF (z3l q05 (pF q0h 0 (muN q05 1)) q07 (pF q0j 0 (muN q07 1)) q08 (pF q0k 0 (muN q08 1))) 0 (muN (z2h q05 (pF q0h 0 (muN q05 1)) q07 (pF q0j 0 (muN q07 1)) q08 (pF q0k 0 (muN q08 1))) 1)) q10))) (k_ Bool.false) (grd (z5m q05 (pF q0h 0 (muN q05 1)) q07 (pF q0j 0 (muN q07 1)) q08 (pF q0k 0 (muN q08 1))) (grd (z82 (z2e q05 (pF q0h 0 (muN q05 1)) q07 (pF q0j 0 (muN q07 1)) q08 (pF q0k 0 (muN q08 1))) (pF (z3k q05 (pF q0h 0 (muN q05 1)) q07 (pF q0j 0 (muN q07 1)) q08 (pF q0k 0 (muN q08 1))) 0 (muN (z2e q05 (pF q0h 0 (muN q05 1)) q07 (pF q0j 0 (muN q07 1)) q08 (pF q0k 0 (muN q08 1))) 1)) (z2f q05 (pF q0h 0 (muN q05 1)) q07 (pF q0j 0 (muN q07 1)) q08 (pF q0k 0 (muN q08 1))) (pF (z3j q05 (pF q0h 0 (muN q05 1)) q07 (pF q0j 0 (muN q07 1)) q08 (pF q0k 0 (muN q08 1))) 0 (muN (z2f q05 (pF q0h 0 (muN q05 1)) q07 (pF q0j 0 (muN q07 1)) q08 (pF q0k 0 (muN q08 1))) 1)) (z2h q05 (pF q0h 0 (muN q05 1)) q07 (pF q0j 0 (muN q07 1)) q08 (pF q0k 0 (muN q08 1))) (pF (z3l q05 (pF q0h 0 (muN q05 1)) q07 (pF q0j 0 (muN q07 1)) q08 (pF q0k 0 (muN q08 1))) 0 (muN (z2h q05 (pF q0h 0 (muN q05 1)) q07 (pF q0j 0 (muN q07 1)) q08 (pF q0k 0 (muN q08 1))) 1)) (z2e q05 (pF q0h 0 (muN q05 1)) q07 (pF q0j 0 (muN q07 1)) q08 (pF q0k 0 (muN q08 1))) (pF (z3k q05 (pF q0h 0 (muN q05 1)) q07 (pF q0j 0 (muN q07 1)) q08 (pF q0k 0 (muN q08 1))) 0 (muN (z2e q05 (pF q0h 0 (muN q05 1)) q07 (pF q0j 0 (muN q07 1)) q08 (pF q0k 0 (muN q08 1))) 1)) (z2f q05 (pF q0h 0 (muN q05 1)) q07 (pF q0j 0 (muN q07 1)) q08 (pF q0k 0 (muN q08 1))) (pF (z3j q05 (pF q0h 0 (muN q05 1)) q07 (pF q0j 0 (muN q07 1)) q08 (pF q0k 0 (muN q08 1))) 0 (muN (z2f q05 (pF q0h 0 (muN q05 1)) q07 (pF q0j 0 (muN q07 1)) q08 (pF q0k 0 (muN q08 1))) 1)) (z2h q05 (pF q0h 0 (muN q05 1)) q07 (pF q0j 0 (muN q07 1)) q08 (pF q0k 0 (muN q08 1))) (pF (z3l q05 (pF q0h 0 (muN q05 1)) q07 (pF q0j 0 (muN q07 1)) q08 (pF q0k 0 (muN q08 1))) 0 (muN (z2h q05 (pF q0h 0 (muN q05 1)) q07 (pF q0j 0 (muN q07 1)) q08 (pF q0k 0 (muN q08 1))) 1))) (br (bnot (z7b (z2e q05 (pF q0h 0 (muN q05 1)) q07 (pF q0j 0 (muN q07 1)) q08 (pF q0k 0 (muN q08 1))) (pF (z3k q05 (pF q0h 0 (muN q05 1)) q07 (pF q0j 0 (muN q07 1)) q08 (pF q0k 0 (muN q08 1))) 0 (muN (z2e q05 (pF q0h 0 (muN q05 1)) q07 (pF q0j 0 (muN q07 1)) q08 (pF q0k 0 (muN q08 1))) 1)) (z2f q05 (pF q0h 0 (muN q05 1)) q07 (pF q0j 0 (muN q07 1)) q08 (pF q0k 0 (muN q08 1))) (pF (z3j q05 (pF q0h 0 (muN q05 1)) q07 (pF q0j 0 (muN q07 1)) q08 (pF q0k 0 (muN q08 1))) 0 (muN (z2f q05 (pF q0h 0 (muN q05 1)) q07 (pF q0j 0 (muN q07 1)) q08 (pF q0k 0 (muN q08 1))) 1)) (z2h q05 (pF q0h 0 (muN q05 1)) q07 (pF q0j 0 (muN q07 1)) q08 (pF q0k 0 (muN q08 1))) (pF (z3l q05 (pF q0h 0 (muN q05 1)) q07 (pF q0j 0 (muN q07 1)) q08 (pF q0k 0 (muN q08 1))) 0 (muN (z2h q05 (pF q0h 0 (muN q05 1)) q07 (pF q0j 0 (muN q07 1)) q08 (pF q0k 0 (muN q08 1))) 1)) (z2e q05 (pF q0h 0 (muN q05 1)) q07 (pF q0j 0 (muN q07 1)) q08 (pF q0k 0 (muN q08 1))) (pF (z3k q05 (pF q0h 0 (muN q05 1)) q07 (pF q0j 0 (muN q07 1)) q08 (pF q0k 0 (muN q08 1))) 0 (muN (z2e q05 (pF q0h 0 (muN q05 1)) q07 (pF q0j 0 (muN q07 1)) q08 (pF q0k 0 (muN q08 1))) 1)) (z2f q05 (pF q0h 0 (muN q05 1)) q07 (pF q0j 0 (muN q07 1)) q08 (pF q0k 0 (muN q08 1))) (pF (z3j q05 (pF q0h 0 (muN q05 1)) q07 (pF q0j 0 (muN q07 1)) q08 (pF q0k 0 (muN q08 1))) 0 (muN (z2f q05 (pF q0h 0 (muN q05 1)) q07 (pF q0j 0 (muN q07 1)) q08 (pF q0k 0 (muN q08 1))) 1)) (z2h q05 (pF q0h 0 (muN q05 1)) q07 (pF q0j 0 (muN q07 1)) q08 (pF q0k 0 (muN q08 1))) (pF (z3l q05 (pF q0h 0 (muN q05 1)) q07 (pF q0j 0 (muN q07 1)) q08 (pF q0k 0 (muN q08 1))) 0 (muN (z2h q05 (pF q0h 0 (muN q05 1)) q07 (pF q0j 0 (muN q07 1)) q08 (pF q0k 0 (muN q08 1))) 1)))) (k_ Bool.false) (k_ Bool.true)))))))))))))
noncomputable def z50 (q05 : Nat) (q0h : List Nat) (q07 : Nat) (q0j : List Nat) (q08 : Nat) (q0k : List Nat) (q10 : Nat) : Option (Bool) := z51 q05 q0h q07 q0j q08 q0k q10 (fun c0_ => some c0_)
theorem zbp {R R' : Type} (o : Option R → Option R') (h0 : o none = none) (q05 : Nat) (q0h : List Nat) (q07 : Nat) (q0j : List Nat) (q08 : Nat) (q0k : List Nat) (q10 : Nat) (k_ : Bool → Option R) : z51 q05 q0h q07 q0j q08 q0k q10 (fun c0_ => o (k_ c0_)) = o (z51 q05 q0h q07 q0j q08 q0k q10 k_) := by
  unfold z51
  repeat (first | refine grd_out h0 ?_ | refine br_out ?_ ?_ | rfl | exact h0.symm)
noncomputable def z99 (q05 : Nat) (q0h : List Nat) (q07 : Nat) (q0j : List Nat) (q08 : Nat) (q0k : List Nat) (q10 : Nat) : Bool := (z50 q05 q0h q07 q0j q08 q0k q10).isSome
noncomputable def z8v (q05 : Nat) (q0h : List Nat) (q07 : Nat) (q0j : List Nat) (q08 : Nat) (q0k : List Nat) (q10 : Nat) : Bool := ((z50 q05 q0h q07 q0j q08 q0k q10).getD default)
theorem zce {q05 : Nat} {q0h : List Nat} {q07 : Nat} {q0j : List Nat} {q08 : Nat} {q0k : List Nat} {q10 : Nat} {r : Bool} (h : z50 q05 q0h q07 q0j q08 q0k q10 = some r) : z99 q05 q0h q07 q0j q08 q0k q10 = true ∧ z8v q05 q0h q07 q0j q08 q0k q10 = r := by
  unfold z99 z8v
  rw [h]
  exact ⟨rfl, rfl⟩
end Go.Rf
