import Derived.Test.YtcbldlfdjabeaaaB
set_option linter.unusedVariables false
set_option linter.unusedSimpArgs false
set_option maxRecDepth 100000
set_option maxHeartbeats 4000000
namespace Go.Rf
open Go
noncomputable def z6n {R : Type} (x : Nat) (k_ : Bool → Option R) : Option R := (k_ (fcmp .eql .f32 (fop .sub .f32 x x) 0))
noncomputable def z6e (x : Nat) : Option (Bool) := z6n x (fun c0_ => some c0_)
theorem zf0 (x : Nat) {R R' : Type} (o : Option R → Option R') (h0 : o none = none) (k_ : Bool → Option R) : z6n x (fun c0_ => o (k_ c0_)) = o (z6n x k_) := by
  unfold z6n
  repeat (first | apply grd_out h0 | apply br_out | rfl | exact h0.symm)
noncomputable def z6q (x : Nat) : Bool := (z6e x).isSome
noncomputable def z60 (x : Nat) : Bool := ((z6e x).getD default)
theorem zcr {x : Nat} {r : Bool} (h : z6e x = some r) : z6q x = true ∧ z60 x = r := by
  unfold z6q z60
  rw [h]
  exact ⟨rfl, rfl⟩
noncomputable def z4p {R : Type} (a_n : Nat) (a : List Nat) (q14 : Int) (k_ : Int → Option R) : Option R := (br (ltI (subI .i64 q14 (Int.ofNat a_n)) 0) (k_ (Int.negSucc 0)) (k_ (subI .i64 q14 (Int.ofNat a_n))))
noncomputable def z4k (a_n : Nat) (a : List Nat) (q14 : Int) : Option (Int) := z4p a_n a q14 (fun c0_ => some c0_)
theorem zdz (a_n : Nat) (a : List Nat) (q14 : Int) {R R' : Type} (o : Option R → Option R') (h0 : o none = none) (k_ : Int → Option R) : z4p a_n a q14 (fun c0_ => o (k_ c0_)) = o (z4p a_n a q14 k_) := by
  unfold z4p
  repeat (first | apply grd_out h0 | apply br_out | rfl | exact h0.symm)
noncomputable def z4i (a_n : Nat) (a : List Nat) (q14 : Int) : Bool := (z4k a_n a q14).isSome
noncomputable def z10 (a_n : Nat) (a : List Nat) (q14 : Int) : Int := ((z4k a_n a q14).getD default)
theorem zac {a_n : Nat} {a : List Nat} {q14 : Int} {r : Int} (h : z4k a_n a q14 = some r) : z4i a_n a q14 = true ∧ z10 a_n a q14 = r := by
  unfold z4i z10
  rw [h]
  exact ⟨rfl, rfl⟩
noncomputable def z99 {R : Type}  (k_ : (List Nat) → (List Nat) → (List Nat) → Option R) : Option R := (k_ [] [] [])
noncomputable def z5m  : Option ((List Nat) × (List Nat) × (List Nat)) := z99 (fun c0_ c1_ c2_ => some (c0_, c1_, c2_))
theorem zfu  {R R' : Type} (o : Option R → Option R') (h0 : o none = none) (k_ : (List Nat) → (List Nat) → (List Nat) → Option R) : z99 (fun c0_ c1_ c2_ => o (k_ c0_ c1_ c2_)) = o (z99 k_) := by
  unfold z99
  repeat (first | apply grd_out h0 | apply br_out | rfl | exact h0.symm)
noncomputable def z98  : Bool := (z5m).isSome
noncomputable def z00  : List Nat := ((z5m).getD default).1
noncomputable def z01  : List Nat := ((z5m).getD default).2.1
noncomputable def z02  : List Nat := ((z5m).getD default).2.2
theorem zgv  {r : (List Nat) × (List Nat) × (List Nat)} (h : z5m = some r) : z98 = true ∧ z00 = r.1 ∧ z01 = r.2.1 ∧ z02 = r.2.2 := by
  unfold z98 z00 z01 z02
  rw [h]
  exact ⟨rfl, rfl, rfl, rfl⟩
noncomputable def z5y {R : Type} (x : Nat) (k_ : Bool → Option R) : Option R := (k_ (fcmp .eql .f32 (fop .sub .f32 x x) 0))
noncomputable def z61 (x : Nat) : Option (Bool) := z5y x (fun c0_ => some c0_)
theorem ze5 (x : Nat) {R R' : Type} (o : Option R → Option R') (h0 : o none = none) (k_ : Bool → Option R) : z5y x (fun c0_ => o (k_ c0_)) = o (z5y x k_) := by
  unfold z5y
  repeat (first | apply grd_out h0 | apply br_out | rfl | exact h0.symm)
noncomputable def z32 (x : Nat) : Bool := (z61 x).isSome
noncomputable def z2u (x : Nat) : Bool := ((z61 x).getD default)
theorem zcc {x : Nat} {r : Bool} (h : z61 x = some r) : z32 x = true ∧ z2u x = r := by
  unfold z32 z2u
  rw [h]
  exact ⟨rfl, rfl⟩
noncomputable def z5k {R : Type} (x : Nat) (low : Nat) (q1b : Nat) (k_ : Bool → Option R) : Option R := (br (fcmp .geq .f32 x low) (k_ (fcmp .leq .f32 x q1b)) (k_ Bool.false))
noncomputable def z5d (x : Nat) (low : Nat) (q1b : Nat) : Option (Bool) := z5k x low q1b (fun c0_ => some c0_)
theorem zeu (x : Nat) (low : Nat) (q1b : Nat) {R R' : Type} (o : Option R → Option R') (h0 : o none = none) (k_ : Bool → Option R) : z5k x low q1b (fun c0_ => o (k_ c0_)) = o (z5k x low q1b k_) := by
  unfold z5k
  repeat (first | apply grd_out h0 | apply br_out | rfl | exact h0.symm)
noncomputable def z9o (x : Nat) (low : Nat) (q1b : Nat) : Bool := (z5d x low q1b).isSome
noncomputable def z8m (x : Nat) (low : Nat) (q1b : Nat) : Bool := ((z5d x low q1b).getD default)
theorem zg7 {x : Nat} {low : Nat} {q1b : Nat} {r : Bool} (h : z5d x low q1b = some r) : z9o x low q1b = true ∧ z8m x low q1b = r := by
  unfold z9o z8m
  rw [h]
  exact ⟨rfl, rfl⟩
noncomputable def z2r {R : Type} (s_n : Nat) (s : List Nat) (k_ : Nat → (List Nat) → Option R) : Option R := (unk (okZ s_n) (k_ 0 []) (grd (okA2 0 s_n 4 (nF (pF s 0 (muN s_n 1))) (nF []) 1) (k_ (adN 0 s_n) (aF [] (pF s 0 (muN s_n 1))))))
noncomputable def z2c (s_n : Nat) (s : List Nat) : Option (Nat × (List Nat)) := z2r s_n s (fun c0_ c1_ => some (c0_, c1_))
theorem zbp (s_n : Nat) (s : List Nat) {R R' : Type} (o : Option R → Option R') (h0 : o none = none) (hi : ∀ a b, o a = o b → a = b) (k_ : Nat → (List Nat) → Option R) : z2r s_n s (fun c0_ c1_ => o (k_ c0_ c1_)) = o (z2r s_n s k_) := by
  unfold z2r
  repeat (first | apply unk_out h0 hi | apply grd_out h0 | apply br_out | rfl | exact h0.symm)
noncomputable def z2q (s_n : Nat) (s : List Nat) : Bool := (z2c s_n s).isSome
noncomputable def z2o (s_n : Nat) (s : List Nat) : Nat := ((z2c s_n s).getD default).1
noncomputable def z2m (s_n : Nat) (s : List Nat) : List Nat := ((z2c s_n s).getD default).2
theorem z5x {s_n : Nat} {s : List Nat} {r : Nat × (List Nat)} (h : z2c s_n s = some r) : z2q s_n s = true ∧ z2o s_n s = r.1 ∧ z2m s_n s = r.2 := by
  unfold z2q z2o z2m
  rw [h]
  exact ⟨rfl, rfl, rfl⟩
noncomputable def z59 {R : Type} (a : Nat) (b : Nat) (k_ : Bool → Option R) : Option R := (br (fcmp .neq .f64 a a) (br (fcmp .neq .f64 a a) (k_ (fcmp .neq .f64 b b)) (k_ Bool.false)) (br (fcmp .neq .f64 b b) (br (fcmp .neq .f64 a a) (k_ (fcmp .neq .f64 b b)) (k_ Bool.false)) (br (fcmp .eql .f64 a 0) (br (fcmp .eql .f64 b 0) (k_ (beqB (fcmp .gtr .f64 (fop .quo .f64 4607182418800017408 a) 0) (fcmp .gtr .f64 (fop .quo .f64 4607182418800017408 b) 0))) (k_ (fcmp .eql .f64 a b))) (k_ (fcmp .eql .f64 a b)))))
noncomputable def z50 (a : Nat) (b : Nat) : Option (Bool) := z59 a b (fun c0_ => some c0_)
theorem zed (a : Nat) (b : Nat) {R R' : Type} (o : Option R → Option R') (h0 : o none = none) (k_ : Bool → Option R) : z59 a b (fun c0_ => o (k_ c0_)) = o (z59 a b k_) := by
  unfold z59
  repeat (first | apply grd_out h0 | apply br_out | rfl | exact h0.symm)
noncomputable def z8r (a : Nat) (b : Nat) : Bool := (z50 a b).isSome
noncomputable def z7m (a : Nat) (b : Nat) : Bool := ((z50 a b).getD default)
theorem zfq {a : Nat} {b : Nat} {r : Bool} (h : z50 a b = some r) : z8r a b = true ∧ z7m a b = r := by
  unfold z8r z7m
  rw [h]
  exact ⟨rfl, rfl⟩
noncomputable def z51 {R : Type} (q07 : Nat) (q0c : List Nat) (q0a : Nat) (q0d : List Nat) (q0b : Nat) (q0e : List Nat) (q14 : Int) (k_ : Int → Option R) : Option R := (grd (z4i q07 (pF q0c 0 (muN q07 1)) q14) (br (ltI (z10 q07 (pF q0c 0 (muN q07 1)) q14) 0) (k_ (Int.negSucc 0)) (grd (z4i q0a (pF q0d 0 (muN q0a 1)) (z10 q07 (pF q0c 0 (muN q07 1)) q14)) (br (ltI (z10 q0a (pF q0d 0 (muN q0a 1)) (z10 q07 (pF q0c 0 (muN q07 1)) q14)) 0) (k_ (Int.negSucc 0)) (grd (z4i q0b (pF q0e 0 (muN q0b 1)) (z10 q0a (pF q0d 0 (muN q0a 1)) (z10 q07 (pF q0c 0 (muN q07 1)) q14))) (br (ltI (z10 q0b (pF q0e 0 (muN q0b 1)) (z10 q0a (pF q0d 0 (muN q0a 1)) (z10 q07 (pF q0c 0 (muN q07 1)) q14))) 0) (k_ (Int.negSucc 0)) (k_ (z10 q0b (pF q0e 0 (muN q0b 1)) (z10 q0a (pF q0d 0 (muN q0a 1)) (z10 q07 (pF q0c 0 (muN q07 1)) q14))))))))))
noncomputable def z56 (q07 : Nat) (q0c : List Nat) (q0a : Nat) (q0d : List Nat) (q0b : Nat) (q0e : List Nat) (q14 : Int) : Option (Int) := z51 q07 q0c q0a q0d q0b q0e q14 (fun c0_ => some c0_)
theorem ze6 (q07 : Nat) (q0c : List Nat) (q0a : Nat) (q0d : List Nat) (q0b : Nat) (q0e : List Nat) (q14 : Int) {R R' : Type} (o : Option R → Option R') (h0 : o none = none) (k_ : Int → Option R) : z51 q07 q0c q0a q0d q0b q0e q14 (fun c0_ => o (k_ c0_)) = o (z51 q07 q0c q0a q0d q0b q0e q14 k_) := by
  unfold z51
  repeat (first | apply grd_out h0 | apply br_out | rfl | exact h0.symm)
noncomputable def z93 (q07 : Nat) (q0c : List Nat) (q0a : Nat) (q0d : List Nat) (q0b : Nat) (q0e : List Nat) (q14 : Int) : Bool := (z56 q07 q0c q0a q0d q0b q0e q14).isSome
noncomputable def z7g (q07 : Nat) (q0c : List Nat) (q0a : Nat) (q0d : List Nat) (q0b : Nat) (q0e : List Nat) (q14 : Int) : Int := ((z56 q07 q0c q0a q0d q0b q0e q14).getD default)
theorem zg4 {q07 : Nat} {q0c : List Nat} {q0a : Nat} {q0d : List Nat} {q0b : Nat} {q0e : List Nat} {q14 : Int} {r : Int} (h : z56 q07 q0c q0a q0d q0b q0e q14 = some r) : z93 q07 q0c q0a q0d q0b q0e q14 = true ∧ z7g q07 q0c q0a q0d q0b q0e q14 = r := by
  unfold z93 z7g
  rw [h]
  exact ⟨rfl, rfl⟩
noncomputable def z3o {R : Type} (q0o : Nat) (q0r : List Nat) (q0q : Nat) (q0w : List Nat) (q0p : Nat) (q0x : List Nat) (k_ : Nat → Nat → Nat → (List Nat) → (List Nat) → (List Nat) → Option R) : Option R := (grd (z2q q0o (pF q0r 0 (muN q0o 1))) (grd (z2q q0q (pF q0w 0 (muN q0q 1))) (grd (z2q q0p (pF q0x 0 (muN q0p 1))) (k_ (z2o q0o (pF q0r 0 (muN q0o 1))) (z2o q0q (pF q0w 0 (muN q0q 1))) (z2o q0p (pF q0x 0 (muN q0p 1))) (z2m q0o (pF q0r 0 (muN q0o 1))) (z2m q0q (pF q0w 0 (muN q0q 1))) (z2m q0p (pF q0x 0 (muN q0p 1)))))))
noncomputable def z1m (q0o : Nat) (q0r : List Nat) (q0q : Nat) (q0w : List Nat) (q0p : Nat) (q0x : List Nat) : Option (Nat × Nat × Nat × (List Nat) × (List Nat) × (List Nat)) := z3o q0o q0r q0q q0w q0p q0x (fun c0_ c1_ c2_ c3_ c4_ c5_ => some (c0_, c1_, c2_, c3_, c4_, c5_))
theorem zdf (q0o : Nat) (q0r : List Nat) (q0q : Nat) (q0w : List Nat) (q0p : Nat) (q0x : List Nat) {R R' : Type} (o : Option R → Option R') (h0 : o none = none) (k_ : Nat → Nat → Nat → (List Nat) → (List Nat) → (List Nat) → Option R) : z3o q0o q0r q0q q0w q0p q0x (fun c0_ c1_ c2_ c3_ c4_ c5_ => o (k_ c0_ c1_ c2_ c3_ c4_ c5_)) = o (z3o q0o q0r q0q q0w q0p q0x k_) := by
  unfold z3o
  repeat (first | apply grd_out h0 | apply br_out | rfl | exact h0.symm)
noncomputable def z6o (q0o : Nat) (q0r : List Nat) (q0q : Nat) (q0w : List Nat) (q0p : Nat) (q0x : List Nat) : Bool := (z1m q0o q0r q0q q0w q0p q0x).isSome
noncomputable def z27 (q0o : Nat) (q0r : List Nat) (q0q : Nat) (q0w : List Nat) (q0p : Nat) (q0x : List Nat) : Nat := ((z1m q0o q0r q0q q0w q0p q0x).getD default).1
noncomputable def z2a (q0o : Nat) (q0r : List Nat) (q0q : Nat) (q0w : List Nat) (q0p : Nat) (q0x : List Nat) : Nat := ((z1m q0o q0r q0q q0w q0p q0x).getD default).2.1
noncomputable def z29 (q0o : Nat) (q0r : List Nat) (q0q : Nat) (q0w : List Nat) (q0p : Nat) (q0x : List Nat) : Nat := ((z1m q0o q0r q0q q0w q0p q0x).getD default).2.2.1
noncomputable def z2w (q0o : Nat) (q0r : List Nat) (q0q : Nat) (q0w : List Nat) (q0p : Nat) (q0x : List Nat) : List Nat := ((z1m q0o q0r q0q q0w q0p q0x).getD default).2.2.2.1
noncomputable def z2y (q0o : Nat) (q0r : List Nat) (q0q : Nat) (q0w : List Nat) (q0p : Nat) (q0x : List Nat) : List Nat := ((z1m q0o q0r q0q q0w q0p q0x).getD default).2.2.2.2.1
noncomputable def z2v (q0o : Nat) (q0r : List Nat) (q0q : Nat) (q0w : List Nat) (q0p : Nat) (q0x : List Nat) : List Nat := ((z1m q0o q0r q0q q0w q0p q0x).getD default).2.2.2.2.2
theorem zey {q0o : Nat} {q0r : List Nat} {q0q : Nat} {q0w : List Nat} {q0p : Nat} {q0x : List Nat} {r : Nat × Nat × Nat × (List Nat) × (List Nat) × (List Nat)} (h : z1m q0o q0r q0q q0w q0p q0x = some r) : z6o q0o q0r q0q q0w q0p q0x = true ∧ z27 q0o q0r q0q q0w q0p q0x = r.1 ∧ z2a q0o q0r q0q q0w q0p q0x = r.2.1 ∧ z29 q0o q0r q0q q0w q0p q0x = r.2.2.1 ∧ z2w q0o q0r q0q q0w q0p q0x = r.2.2.2.1 ∧ z2y q0o q0r q0q q0w q0p q0x = r.2.2.2.2.1 ∧ z2v q0o q0r q0q q0w q0p q0x = r.2.2.2.2.2 := by
  unfold z6o z27 z2a z29 z2w z2y z2v
  rw [h]
  exact ⟨rfl, rfl, rfl, rfl, rfl, rfl, rfl⟩
noncomputable def z5w {R : Type} (x : Nat) (k_ : Bool → Option R) : Option R := (grd (z6q x) (br (z60 x) (k_ (fcmp .geq .f32 x 0)) (k_ Bool.false)))
noncomputable def z5v (x : Nat) : Option (Bool) := z5w x (fun c0_ => some c0_)
theorem zfa (x : Nat) {R R' : Type} (o : Option R → Option R') (h0 : o none = none) (k_ : Bool → Option R) : z5w x (fun c0_ => o (k_ c0_)) = o (z5w x k_) := by
  unfold z5w
  repeat (first | apply grd_out h0 | apply br_out | rfl | exact h0.symm)
noncomputable def zaj (x : Nat) : Bool := (z5v x).isSome
noncomputable def z9y (x : Nat) : Bool := ((z5v x).getD default)
theorem zgp {x : Nat} {r : Bool} (h : z5v x = some r) : zaj x = true ∧ z9y x = r := by
  unfold zaj z9y
  rw [h]
  exact ⟨rfl, rfl⟩
noncomputable def z5j {R : Type} (x : Nat) (k_ : Bool → Option R) : Option R := (grd (z32 x) (br (z2u x) (k_ (fcmp .geq .f32 x 0)) (k_ Bool.false)))
noncomputable def z5f (x : Nat) : Option (Bool) := z5j x (fun c0_ => some c0_)
theorem zf3 (x : Nat) {R R' : Type} (o : Option R → Option R') (h0 : o none = none) (k_ : Bool → Option R) : z5j x (fun c0_ => o (k_ c0_)) = o (z5j x k_) := by
  unfold z5j
  repeat (first | apply grd_out h0 | apply br_out | rfl | exact h0.symm)
noncomputable def z47 (x : Nat) : Bool := (z5f x).isSome
noncomputable def z3l (x : Nat) : Bool := ((z5f x).getD default)
theorem zgc {x : Nat} {r : Bool} (h : z5f x = some r) : z47 x = true ∧ z3l x = r := by
  unfold z47 z3l
  rw [h]
  exact ⟨rfl, rfl⟩
noncomputable def z3r {R : Type} (x : Nat) (k_ : Bool → Option R) : Option R := (grd (z6q x) (k_ (bnot (z60 x))))
noncomputable def z3z (x : Nat) : Option (Bool) := z3r x (fun c0_ => some c0_)
theorem zdd (x : Nat) {R R' : Type} (o : Option R → Option R') (h0 : o none = none) (k_ : Bool → Option R) : z3r x (fun c0_ => o (k_ c0_)) = o (z3r x k_) := by
  unfold z3r
  repeat (first | apply grd_out h0 | apply br_out | rfl | exact h0.symm)
noncomputable def z6f (x : Nat) : Bool := (z3z x).isSome
noncomputable def z63 (x : Nat) : Bool := ((z3z x).getD default)
theorem zf5 {x : Nat} {r : Bool} (h : z3z x = some r) : z6f x = true ∧ z63 x = r := by
  unfold z6f z63
  rw [h]
  exact ⟨rfl, rfl⟩
noncomputable def z21 {R : Type} (an : Nat) (q1a : Nat) (b0 : List Nat) (i : Int) (b1 : List Nat) (kn_ : Int → (List Nat) → Option R) (k0_ : Int → Bool → (List Nat) → Option R) : Option R := (br (ltI i (Int.ofNat an)) (grd (okIx i an) (grd (okIx i q1a) (kn_ (addI .i64 i 1) (sF b1 (ixO 0 i 1) (gF b0 (ixO 0 i 1)))))) (k0_ i (ltI i (Int.ofNat an)) b1))
theorem zco (an : Nat) (q1a : Nat) (b0 : List Nat) (i : Int) (b1 : List Nat) {R R' : Type} (o : Option R → Option R') (h0 : o none = none) (kn_ : Int → (List Nat) → Option R) (k0_ : Int → Bool → (List Nat) → Option R) : z21 an q1a b0 i b1 (fun i' b1' => o (kn_ i' b1')) (fun c0_ c1_ c2_ => o (k0_ c0_ c1_ c2_)) = o (z21 an q1a b0 i b1 kn_ k0_) := by
  unfold z21
  repeat (first | apply grd_out h0 | apply br_out | rfl | exact h0.symm)
noncomputable def z18 (an : Nat) (q1a : Nat) (b0 : List Nat) : Nat → Int → (List Nat) → Option ((Int × Bool × (List Nat)))
  | 0, _, _ => none
  | n + 1, i, b1 => z21 an q1a b0  i b1  (fun i' b1' => z18 an q1a b0 n i' b1') (fun c0_ c1_ c2_ => some (c0_, c1_, c2_))
theorem za0 (an : Nat) (q1a : Nat) (b0 : List Nat) (n : Nat) (i : Int) (b1 : List Nat) : z18 an q1a b0 (n + 1) i b1 = z21 an q1a b0  i b1  (fun i' b1' => z18 an q1a b0 n i' b1') (fun c0_ c1_ c2_ => some (c0_, c1_, c2_)) := rfl
noncomputable def z4d (an : Nat) (q1a : Nat) (b0 : List Nat) (i : Int) (b1 : List Nat) : Bool := (z18 an q1a b0 big i b1).isSome
noncomputable def z6c (an : Nat) (q1a : Nat) (b0 : List Nat) (i : Int) (b1 : List Nat) : Int := ((z18 an q1a b0 big i b1).getD default).1
noncomputable def z67 (an : Nat) (q1a : Nat) (b0 : List Nat) (i : Int) (b1 : List Nat) : Bool := ((z18 an q1a b0 big i b1).getD default).2.1
noncomputable def z36 (an : Nat) (q1a : Nat) (b0 : List Nat) (i : Int) (b1 : List Nat) : List Nat := ((z18 an q1a b0 big i b1).getD default).2.2
theorem zdh {an : Nat} {q1a : Nat} {b0 : List Nat} {i : Int} {b1 : List Nat} {m : Nat} {r : Int × Bool × (List Nat)} (hm : m = big) (h : z18 an q1a b0 m i b1 = some r) : z4d an q1a b0 i b1 = true ∧ z6c an q1a b0 i b1 = r.1 ∧ z67 an q1a b0 i b1 = r.2.1 ∧ z36 an q1a b0 i b1 = r.2.2 := by
  subst hm
  unfold z4d z6c z67 z36
  rw [h]
  exact ⟨rfl, rfl, rfl, rfl⟩
noncomputable def z1k {R : Type} (an : Nat) (b0 : List Nat) (k : Int) (i : Int) (kn_ : Int → Int → Option R) (k0_ : Unit → Option R) (k1_ : Int → Int → Bool → Option R) : Option R := (br (ltI i (Int.ofNat an)) (grd (okIx i an) (br (fcmp .neq .f32 (gF b0 (ixO 0 i 1)) (fOI .f32 k)) (k0_ ()) (kn_ (addI .i64 k 1) (addI .i64 i 1)))) (k1_ k i (ltI i (Int.ofNat an))))
theorem zbz (an : Nat) (b0 : List Nat) (k : Int) (i : Int) {R R' : Type} (o : Option R → Option R') (h0 : o none = none) (kn_ : Int → Int → Option R) (k0_ : Unit → Option R) (k1_ : Int → Int → Bool → Option R) : z1k an b0 k i (fun k' i' => o (kn_ k' i')) (fun _ => o (k0_ ())) (fun c0_ c1_ c2_ => o (k1_ c0_ c1_ c2_)) = o (z1k an b0 k i kn_ k0_ k1_) := by
  unfold z1k
  repeat (first | apply grd_out h0 | apply br_out | rfl | exact h0.symm)
noncomputable def z0h (an : Nat) (b0 : List Nat) : Nat → Int → Int → Option ((Unit) ⊕ (Int × Int × Bool))
  | 0, _, _ => none
  | n + 1, k, i => z1k an b0  k i  (fun k' i' => z0h an b0 n k' i') (fun _ => some (Sum.inl ())) (fun c0_ c1_ c2_ => some (Sum.inr (c0_, c1_, c2_)))
theorem z8g (an : Nat) (b0 : List Nat) (n : Nat) (k : Int) (i : Int) : z0h an b0 (n + 1) k i = z1k an b0  k i  (fun k' i' => z0h an b0 n k' i') (fun _ => some (Sum.inl ())) (fun c0_ c1_ c2_ => some (Sum.inr (c0_, c1_, c2_))) := rfl
noncomputable def z5a (an : Nat) (b0 : List Nat) (k : Int) (i : Int) : Bool := (z0h an b0 big k i).isSome
noncomputable def z4v (an : Nat) (b0 : List Nat) (k : Int) (i : Int) : Bool := oL (z0h an b0 big k i)
noncomputable def z42 (an : Nat) (b0 : List Nat) (k : Int) (i : Int) : Int := ((tR (z0h an b0 big k i)).getD default).1
noncomputable def z5p (an : Nat) (b0 : List Nat) (k : Int) (i : Int) : Int := ((tR (z0h an b0 big k i)).getD default).2.1
noncomputable def z5s (an : Nat) (b0 : List Nat) (k : Int) (i : Int) : Bool := ((tR (z0h an b0 big k i)).getD default).2.2
theorem zcu {an : Nat} {b0 : List Nat} {k : Int} {i : Int} {m : Nat} {r : Int × Int × Bool} (hm : m = big) (h : z0h an b0 m k i = some (Sum.inr r)) : z5a an b0 k i = true ∧ z4v an b0 k i = false ∧ z42 an b0 k i = r.1 ∧ z5p an b0 k i = r.2.1 ∧ z5s an b0 k i = r.2.2 := by
  subst hm
  unfold z5a z4v z42 z5p z5s
  rw [h]
  exact ⟨rfl, rfl, rfl, rfl, rfl⟩
noncomputable def z1a {R : Type} (sn : Nat) (v : Nat) (t7 : Int) (b0 : List Nat) (t8 : Int) (kn_ : Int → Option R) (k0_ : Int → Option R) (k1_ : Int → Bool → Option R) : Option R := (br (ltI t8 t7) (grd (okIx t8 sn) (br (fcmp .eql .f32 v (gF b0 (ixO 0 t8 1))) (k0_ t8) (kn_ (addI .i64 t8 1)))) (k1_ t8 (ltI t8 t7)))
theorem zbb (sn : Nat) (v : Nat) (t7 : Int) (b0 : List Nat) (t8 : Int) {R R' : Type} (o : Option R → Option R') (h0 : o none = none) (kn_ : Int → Option R) (k0_ : Int → Option R) (k1_ : Int → Bool → Option R) : z1a sn v t7 b0 t8 (fun t8' => o (kn_ t8')) (fun c0_ => o (k0_ c0_)) (fun c0_ c1_ => o (k1_ c0_ c1_)) = o (z1a sn v t7 b0 t8 kn_ k0_ k1_) := by
  unfold z1a
  repeat (first | apply grd_out h0 | apply br_out | rfl | exact h0.symm)
noncomputable def z0g (sn : Nat) (v : Nat) (t7 : Int) (b0 : List Nat) : Nat → Int → Option ((Int) ⊕ (Int × Bool))
  | 0, _ => none
  | n + 1, t8 => z1a sn v t7 b0  t8  (fun t8' => z0g sn v t7 b0 n t8') (fun c0_ => some (Sum.inl c0_)) (fun c0_ c1_ => some (Sum.inr (c0_, c1_)))
theorem z64 (sn : Nat) (v : Nat) (t7 : Int) (b0 : List Nat) (n : Nat) (t8 : Int) : z0g sn v t7 b0 (n + 1) t8 = z1a sn v t7 b0  t8  (fun t8' => z0g sn v t7 b0 n t8') (fun c0_ => some (Sum.inl c0_)) (fun c0_ c1_ => some (Sum.inr (c0_, c1_))) := rfl
noncomputable def z1f (sn : Nat) (v : Nat) (t7 : Int) (b0 : List Nat) (t8 : Int) : Bool := (z0g sn v t7 b0 big t8).isSome
noncomputable def z1d (sn : Nat) (v : Nat) (t7 : Int) (b0 : List Nat) (t8 : Int) : Bool := oL (z0g sn v t7 b0 big t8)
noncomputable def z2k (sn : Nat) (v : Nat) (t7 : Int) (b0 : List Nat) (t8 : Int) : Int := ((tL (z0g sn v t7 b0 big t8)).getD default)
noncomputable def z4u (sn : Nat) (v : Nat) (t7 : Int) (b0 : List Nat) (t8 : Int) : Int := ((tR (z0g sn v t7 b0 big t8)).getD default).1
noncomputable def z4t (sn : Nat) (v : Nat) (t7 : Int) (b0 : List Nat) (t8 : Int) : Bool := ((tR (z0g sn v t7 b0 big t8)).getD default).2
theorem zbk {sn : Nat} {v : Nat} {t7 : Int} {b0 : List Nat} {t8 : Int} {m : Nat} {r : Int} (hm : m = big) (h : z0g sn v t7 b0 m t8 = some (Sum.inl r)) : z1f sn v t7 b0 t8 = true ∧ z1d sn v t7 b0 t8 = true ∧ z2k sn v t7 b0 t8 = r := by
  subst hm
  unfold z1f z1d z2k
  rw [h]
  exact ⟨rfl, rfl, rfl⟩
theorem zbn {sn : Nat} {v : Nat} {t7 : Int} {b0 : List Nat} {t8 : Int} {m : Nat} {r : Int × Bool} (hm : m = big) (h : z0g sn v t7 b0 m t8 = some (Sum.inr r)) : z1f sn v t7 b0 t8 = true ∧ z1d sn v t7 b0 t8 = false ∧ z4u sn v t7 b0 t8 = r.1 ∧ z4t sn v t7 b0 t8 = r.2 := by
  subst hm
  unfold z1f z1d z4u z4t
  rw [h]
  exact ⟨rfl, rfl, rfl, rfl⟩
noncomputable def z4o {R : Type} (a_n : Nat) (a : List Nat) (k_ : Nat → (List Nat) → Option R) : Option R := (grd (okMk (Int.ofNat a_n) (Int.ofNat a_n) 4) (grd (z4d a_n (toN (Int.ofNat a_n)) a 0 (rF (muN (toN (Int.ofNat a_n)) 1))) (k_ (toN (Int.ofNat a_n)) (z36 a_n (toN (Int.ofNat a_n)) a 0 (rF (muN (toN (Int.ofNat a_n)) 1))))))
noncomputable def z38 (a_n : Nat) (a : List Nat) : Option (Nat × (List Nat)) := z4o a_n a (fun c0_ c1_ => some (c0_, c1_))
theorem zdr (a_n : Nat) (a : List Nat) {R R' : Type} (o : Option R → Option R') (h0 : o none = none) (k_ : Nat → (List Nat) → Option R) : z4o a_n a (fun c0_ c1_ => o (k_ c0_ c1_)) = o (z4o a_n a k_) := by
  unfold z4o
  repeat (first | apply grd_out h0 | apply br_out | rfl | exact h0.symm)
noncomputable def z4n (a_n : Nat) (a : List Nat) : Bool := (z38 a_n a).isSome
noncomputable def z3v (a_n : Nat) (a : List Nat) : Nat := ((z38 a_n a).getD default).1
noncomputable def z3x (a_n : Nat) (a : List Nat) : List Nat := ((z38 a_n a).getD default).2
theorem zad {a_n : Nat} {a : List Nat} {r : Nat × (List Nat)} (h : z38 a_n a = some r) : z4n a_n a = true ∧ z3v a_n a = r.1 ∧ z3x a_n a = r.2 := by
  unfold z4n z3v z3x
  rw [h]
  exact ⟨rfl, rfl, rfl⟩
noncomputable def z3d {R : Type} (a_n : Nat) (a : List Nat) (k : Int) (k_ : Int → Option R) : Option R := (grd (z5a a_n a k 0) (br (z4v a_n a k 0) (k_ (Int.negSucc 0)) (k_ (z42 a_n a k 0))))
noncomputable def z3f (a_n : Nat) (a : List Nat) (k : Int) : Option (Int) := z3d a_n a k (fun c0_ => some c0_)
theorem zcy (a_n : Nat) (a : List Nat) (k : Int) {R R' : Type} (o : Option R → Option R') (h0 : o none = none) (k_ : Int → Option R) : z3d a_n a k (fun c0_ => o (k_ c0_)) = o (z3d a_n a k k_) := by
  unfold z3d
  repeat (first | apply grd_out h0 | apply br_out | rfl | exact h0.symm)
noncomputable def z3b (a_n : Nat) (a : List Nat) (k : Int) : Bool := (z3f a_n a k).isSome
noncomputable def z0m (a_n : Nat) (a : List Nat) (k : Int) : Int := ((z3f a_n a k).getD default)
theorem z8i {a_n : Nat} {a : List Nat} {k : Int} {r : Int} (h : z3f a_n a k = some r) : z3b a_n a k = true ∧ z0m a_n a k = r := by
  unfold z3b z0m
  rw [h]
  exact ⟨rfl, rfl⟩
noncomputable def z2e {R : Type} (s_n : Nat) (s : List Nat) (v : Nat) (k_ : Int → Option R) : Option R := (grd (z1f s_n v (Int.ofNat s_n) s 0) (br (z1d s_n v (Int.ofNat s_n) s 0) (k_ (z2k s_n v (Int.ofNat s_n) s 0)) (k_ (Int.negSucc 0))))
noncomputable def z1t (s_n : Nat) (s : List Nat) (v : Nat) : Option (Int) := z2e s_n s v (fun c0_ => some c0_)
theorem zbu (s_n : Nat) (s : List Nat) (v : Nat) {R R' : Type} (o : Option R → Option R') (h0 : o none = none) (k_ : Int → Option R) : z2e s_n s v (fun c0_ => o (k_ c0_)) = o (z2e s_n s v k_) := by
  unfold z2e
  repeat (first | apply grd_out h0 | apply br_out | rfl | exact h0.symm)
noncomputable def z4w (s_n : Nat) (s : List Nat) (v : Nat) : Bool := (z1t s_n s v).isSome
noncomputable def z48 (s_n : Nat) (s : List Nat) (v : Nat) : Int := ((z1t s_n s v).getD default)
theorem za5 {s_n : Nat} {s : List Nat} {v : Nat} {r : Int} (h : z1t s_n s v = some r) : z4w s_n s v = true ∧ z48 s_n s v = r := by
  unfold z4w z48
  rw [h]
  exact ⟨rfl, rfl⟩
noncomputable def z4h {R : Type} (x : Nat) (k_ : Bool → Option R) : Option R := (grd (zaj x) (k_ (bnot (z9y x))))
noncomputable def z4q (x : Nat) : Option (Bool) := z4h x (fun c0_ => some c0_)
theorem zdm (x : Nat) {R R' : Type} (o : Option R → Option R') (h0 : o none = none) (k_ : Bool → Option R) : z4h x (fun c0_ => o (k_ c0_)) = o (z4h x k_) := by
  unfold z4h
  repeat (first | apply grd_out h0 | apply br_out | rfl | exact h0.symm)
noncomputable def z7r (x : Nat) : Bool := (z4q x).isSome
noncomputable def z6l (x : Nat) : Bool := ((z4q x).getD default)
theorem zff {x : Nat} {r : Bool} (h : z4q x = some r) : z7r x = true ∧ z6l x = r := by
  unfold z7r z6l
  rw [h]
  exact ⟨rfl, rfl⟩
noncomputable def z1z {R : Type} (an : Nat) (bn : Nat) (b0 : List Nat) (b1 : List Nat) (i : Int) (kn_ : Int → Option R) (k0_ : Unit → Option R) (k1_ : Int → Bool → Option R) : Option R := (br (ltI i (Int.ofNat an)) (grd (okIx i an) (grd (okIx i bn) (grd (z8r (fcvV .f32 .f64 (gF b0 (ixO 0 i 1))) (fcvV .f32 .f64 (gF b1 (ixO 0 i 1)))) (br (bnot (z7m (fcvV .f32 .f64 (gF b0 (ixO 0 i 1))) (fcvV .f32 .f64 (gF b1 (ixO 0 i 1))))) (k0_ ()) (kn_ (addI .i64 i 1)))))) (k1_ i (ltI i (Int.ofNat an))))
theorem zck (an : Nat) (bn : Nat) (b0 : List Nat) (b1 : List Nat) (i : Int) {R R' : Type} (o : Option R → Option R') (h0 : o none = none) (kn_ : Int → Option R) (k0_ : Unit → Option R) (k1_ : Int → Bool → Option R) : z1z an bn b0 b1 i (fun i' => o (kn_ i')) (fun _ => o (k0_ ())) (fun c0_ c1_ => o (k1_ c0_ c1_)) = o (z1z an bn b0 b1 i kn_ k0_ k1_) := by
  unfold z1z
  repeat (first | apply grd_out h0 | apply br_out | rfl | exact h0.symm)
noncomputable def z19 (an : Nat) (bn : Nat) (b0 : List Nat) (b1 : List Nat) : Nat → Int → Option ((Unit) ⊕ (Int × Bool))
  | 0, _ => none
  | n + 1, i => z1z an bn b0 b1  i  (fun i' => z19 an bn b0 b1 n i') (fun _ => some (Sum.inl ())) (fun c0_ c1_ => some (Sum.inr (c0_, c1_)))
theorem z9z (an : Nat) (bn : Nat) (b0 : List Nat) (b1 : List Nat) (n : Nat) (i : Int) : z19 an bn b0 b1 (n + 1) i = z1z an bn b0 b1  i  (fun i' => z19 an bn b0 b1 n i') (fun _ => some (Sum.inl ())) (fun c0_ c1_ => some (Sum.inr (c0_, c1_))) := rfl
noncomputable def z5u (an : Nat) (bn : Nat) (b0 : List Nat) (b1 : List Nat) (i : Int) : Bool := (z19 an bn b0 b1 big i).isSome
noncomputable def z5h (an : Nat) (bn : Nat) (b0 : List Nat) (b1 : List Nat) (i : Int) : Bool := oL (z19 an bn b0 b1 big i)
noncomputable def z6b (an : Nat) (bn : Nat) (b0 : List Nat) (b1 : List Nat) (i : Int) : Int := ((tR (z19 an bn b0 b1 big i)).getD default).1
noncomputable def z69 (an : Nat) (bn : Nat) (b0 : List Nat) (b1 : List Nat) (i : Int) : Bool := ((tR (z19 an bn b0 b1 big i)).getD default).2
theorem zdb {an : Nat} {bn : Nat} {b0 : List Nat} {b1 : List Nat} {i : Int} {m : Nat} {r : Int × Bool} (hm : m = big) (h : z19 an bn b0 b1 m i = some (Sum.inr r)) : z5u an bn b0 b1 i = true ∧ z5h an bn b0 b1 i = false ∧ z6b an bn b0 b1 i = r.1 ∧ z69 an bn b0 b1 i = r.2 := by
  subst hm
  unfold z5u z5h z6b z69
  rw [h]
  exact ⟨rfl, rfl, rfl, rfl⟩
noncomputable def z58 {R : Type} (q07 : Nat) (q0c : List Nat) (q0a : Nat) (q0d : List Nat) (q0b : Nat) (q0e : List Nat) (k_ : Nat → Nat → Nat → (List Nat) → (List Nat) → (List Nat) → Option R) : Option R := (grd (z4n q07 (pF q0c 0 (muN q07 1))) (grd (z4n q0a (pF q0d 0 (muN q0a 1))) (grd (z4n q0b (pF q0e 0 (muN q0b 1))) (k_ (z3v q07 (pF q0c 0 (muN q07 1))) (z3v q0a (pF q0d 0 (muN q0a 1))) (z3v q0b (pF q0e 0 (muN q0b 1))) (z3x q07 (pF q0c 0 (muN q07 1))) (z3x q0a (pF q0d 0 (muN q0a 1))) (z3x q0b (pF q0e 0 (muN q0b 1)))))))
noncomputable def z26 (q07 : Nat) (q0c : List Nat) (q0a : Nat) (q0d : List Nat) (q0b : Nat) (q0e : List Nat) : Option (Nat × Nat × Nat × (List Nat) × (List Nat) × (List Nat)) := z58 q07 q0c q0a q0d q0b q0e (fun c0_ c1_ c2_ c3_ c4_ c5_ => some (c0_, c1_, c2_, c3_, c4_, c5_))
theorem zec (q07 : Nat) (q0c : List Nat) (q0a : Nat) (q0d : List Nat) (q0b : Nat) (q0e : List Nat) {R R' : Type} (o : Option R → Option R') (h0 : o none = none) (k_ : Nat → Nat → Nat → (List Nat) → (List Nat) → (List Nat) → Option R) : z58 q07 q0c q0a q0d q0b q0e (fun c0_ c1_ c2_ c3_ c4_ c5_ => o (k_ c0_ c1_ c2_ c3_ c4_ c5_)) = o (z58 q07 q0c q0a q0d q0b q0e k_) := by
  unfold z58
  repeat (first | apply grd_out h0 | apply br_out | rfl | exact h0.symm)
noncomputable def z8w (q07 : Nat) (q0c : List Nat) (q0a : Nat) (q0d : List Nat) (q0b : Nat) (q0e : List Nat) : Bool := (z26 q07 q0c q0a q0d q0b q0e).isSome
noncomputable def z7h (q07 : Nat) (q0c : List Nat) (q0a : Nat) (q0d : List Nat) (q0b : Nat) (q0e : List Nat) : Nat := ((z26 q07 q0c q0a q0d q0b q0e).getD default).1
noncomputable def z7l (q07 : Nat) (q0c : List Nat) (q0a : Nat) (q0d : List Nat) (q0b : Nat) (q0e : List Nat) : Nat := ((z26 q07 q0c q0a q0d q0b q0e).getD default).2.1
noncomputable def z7n (q07 : Nat) (q0c : List Nat) (q0a : Nat) (q0d : List Nat) (q0b : Nat) (q0e : List Nat) : Nat := ((z26 q07 q0c q0a q0d q0b q0e).getD default).2.2.1
noncomputable def z7q (q07 : Nat) (q0c : List Nat) (q0a : Nat) (q0d : List Nat) (q0b : Nat) (q0e : List Nat) : List Nat := ((z26 q07 q0c q0a q0d q0b q0e).getD default).2.2.2.1
noncomputable def z7p (q07 : Nat) (q0c : List Nat) (q0a : Nat) (q0d : List Nat) (q0b : Nat) (q0e : List Nat) : List Nat := ((z26 q07 q0c q0a q0d q0b q0e).getD default).2.2.2.2.1
noncomputable def z7f (q07 : Nat) (q0c : List Nat) (q0a : Nat) (q0d : List Nat) (q0b : Nat) (q0e : List Nat) : List Nat := ((z26 q07 q0c q0a q0d q0b q0e).getD default).2.2.2.2.2
theorem zg2 {q07 : Nat} {q0c : List Nat} {q0a : Nat} {q0d : List Nat} {q0b : Nat} {q0e : List Nat} {r : Nat × Nat × Nat × (List Nat) × (List Nat) × (List Nat)} (h : z26 q07 q0c q0a q0d q0b q0e = some r) : z8w q07 q0c q0a q0d q0b q0e = true ∧ z7h q07 q0c q0a q0d q0b q0e = r.1 ∧ z7l q07 q0c q0a q0d q0b q0e = r.2.1 ∧ z7n q07 q0c q0a q0d q0b q0e = r.2.2.1 ∧ z7q q07 q0c q0a q0d q0b q0e = r.2.2.2.1 ∧ z7p q07 q0c q0a q0d q0b q0e = r.2.2.2.2.1 ∧ z7f q07 q0c q0a q0d q0b q0e = r.2.2.2.2.2 := by
  unfold z8w z7h z7l z7n z7q z7p z7f
  rw [h]
  exact ⟨rfl, rfl, rfl, rfl, rfl, rfl, rfl⟩
noncomputable def z3s {R : Type} (q07 : Nat) (q0c : List Nat) (q0a : Nat) (q0d : List Nat) (q0b : Nat) (q0e : List Nat) (k : Int) (k_ : Int → Option R) : Option R := (grd (z3b q07 (pF q0c 0 (muN q07 1)) k) (br (ltI (z0m q07 (pF q0c 0 (muN q07 1)) k) 0) (k_ (Int.negSucc 0)) (grd (z3b q0a (pF q0d 0 (muN q0a 1)) (z0m q07 (pF q0c 0 (muN q07 1)) k)) (br (ltI (z0m q0a (pF q0d 0 (muN q0a 1)) (z0m q07 (pF q0c 0 (muN q07 1)) k)) 0) (k_ (Int.negSucc 0)) (grd (z3b q0b (pF q0e 0 (muN q0b 1)) (z0m q0a (pF q0d 0 (muN q0a 1)) (z0m q07 (pF q0c 0 (muN q07 1)) k))) (br (ltI (z0m q0b (pF q0e 0 (muN q0b 1)) (z0m q0a (pF q0d 0 (muN q0a 1)) (z0m q07 (pF q0c 0 (muN q07 1)) k))) 0) (k_ (Int.negSucc 0)) (k_ (z0m q0b (pF q0e 0 (muN q0b 1)) (z0m q0a (pF q0d 0 (muN q0a 1)) (z0m q07 (pF q0c 0 (muN q07 1)) k))))))))))
noncomputable def z3n (q07 : Nat) (q0c : List Nat) (q0a : Nat) (q0d : List Nat) (q0b : Nat) (q0e : List Nat) (k : Int) : Option (Int) := z3s q07 q0c q0a q0d q0b q0e k (fun c0_ => some c0_)
theorem zdl (q07 : Nat) (q0c : List Nat) (q0a : Nat) (q0d : List Nat) (q0b : Nat) (q0e : List Nat) (k : Int) {R R' : Type} (o : Option R → Option R') (h0 : o none = none) (k_ : Int → Option R) : z3s q07 q0c q0a q0d q0b q0e k (fun c0_ => o (k_ c0_)) = o (z3s q07 q0c q0a q0d q0b q0e k k_) := by
  unfold z3s
  repeat (first | apply grd_out h0 | apply br_out | rfl | exact h0.symm)
noncomputable def z6j (q07 : Nat) (q0c : List Nat) (q0a : Nat) (q0d : List Nat) (q0b : Nat) (q0e : List Nat) (k : Int) : Bool := (z3n q07 q0c q0a q0d q0b q0e k).isSome
noncomputable def z62 (q07 : Nat) (q0c : List Nat) (q0a : Nat) (q0d : List Nat) (q0b : Nat) (q0e : List Nat) (k : Int) : Int := ((z3n q07 q0c q0a q0d q0b q0e k).getD default)
theorem zf2 {q07 : Nat} {q0c : List Nat} {q0a : Nat} {q0d : List Nat} {q0b : Nat} {q0e : List Nat} {k : Int} {r : Int} (h : z3n q07 q0c q0a q0d q0b q0e k = some r) : z6j q07 q0c q0a q0d q0b q0e k = true ∧ z62 q07 q0c q0a q0d q0b q0e k = r := by
  unfold z6j z62
  rw [h]
  exact ⟨rfl, rfl⟩
noncomputable def z1s {R : Type} (s_n : Nat) (s : List Nat) (v : Nat) (k_ : Bool → Option R) : Option R := (grd (z4w s_n (pF s 0 (muN s_n 1)) v) (k_ (leI 0 (z48 s_n (pF s 0 (muN s_n 1)) v))))
noncomputable def z1r (s_n : Nat) (s : List Nat) (v : Nat) : Option (Bool) := z1s s_n s v (fun c0_ => some c0_)
theorem zbc (s_n : Nat) (s : List Nat) (v : Nat) {R R' : Type} (o : Option R → Option R') (h0 : o none = none) (k_ : Bool → Option R) : z1s s_n s v (fun c0_ => o (k_ c0_)) = o (z1s s_n s v k_) := by
  unfold z1s
  repeat (first | apply grd_out h0 | apply br_out | rfl | exact h0.symm)
noncomputable def z3j (s_n : Nat) (s : List Nat) (v : Nat) : Bool := (z1r s_n s v).isSome
noncomputable def z39 (s_n : Nat) (s : List Nat) (v : Nat) : Bool := ((z1r s_n s v).getD default)
theorem zbr {s_n : Nat} {s : List Nat} {v : Nat} {r : Bool} (h : z1r s_n s v = some r) : z3j s_n s v = true ∧ z39 s_n s v = r := by
  unfold z3j z39
  rw [h]
  exact ⟨rfl, rfl⟩
noncomputable def z4m {R : Type} (a_n : Nat) (a : List Nat) (b_n : Nat) (b : List Nat) (k_ : Bool → Option R) : Option R := (br (neI (Int.ofNat a_n) (Int.ofNat b_n)) (k_ Bool.false) (grd (z5u a_n b_n a b 0) (br (z5h a_n b_n a b 0) (k_ Bool.false) (k_ Bool.true))))
noncomputable def z4l (a_n : Nat) (a : List Nat) (b_n : Nat) (b : List Nat) : Option (Bool) := z4m a_n a b_n b (fun c0_ => some c0_)
theorem zdw (a_n : Nat) (a : List Nat) (b_n : Nat) (b : List Nat) {R R' : Type} (o : Option R → Option R') (h0 : o none = none) (k_ : Bool → Option R) : z4m a_n a b_n b (fun c0_ => o (k_ c0_)) = o (z4m a_n a b_n b k_) := by
  unfold z4m
  repeat (first | apply grd_out h0 | apply br_out | rfl | exact h0.symm)
noncomputable def z4j (a_n : Nat) (a : List Nat) (b_n : Nat) (b : List Nat) : Bool := (z4l a_n a b_n b).isSome
noncomputable def z3w (a_n : Nat) (a : List Nat) (b_n : Nat) (b : List Nat) : Bool := ((z4l a_n a b_n b).getD default)
theorem zab {a_n : Nat} {a : List Nat} {b_n : Nat} {b : List Nat} {r : Bool} (h : z4l a_n a b_n b = some r) : z4j a_n a b_n b = true ∧ z3w a_n a b_n b = r := by
  unfold z4j z3w
  rw [h]
  exact ⟨rfl, rfl⟩
noncomputable def z2z {R : Type} (t3 : Int) (b0 : List Nat) (b1 : List Nat) (b2 : List Nat) (q06 : Nat) (q08 : Nat) (q09 : Nat) (t4 : Int) (kn_ : Int → Option R) (k0_ : Unit → Option R) (k1_ : Int → Bool → Option R) : Option R := (br (ltI t4 t3) (grd (okIx t4 q06) (br (fcmp .geq .f32 (gF b0 (ixO 0 t4 1)) 3204448256) (grd (okIx t4 q06) (br (bnot (fcmp .leq .f32 (gF b0 (ixO 0 t4 1)) 1056964608)) (k0_ ()) (br (ltI 0 t4) (grd (okIx t4 q06) (grd (okIx (subI .i64 t4 1) q06) (br (fcmp .leq .f32 (gF b0 (ixO 0 t4 1)) (gF b0 (ixO 0 (subI .i64 t4 1) 1))) (k0_ ()) (grd (okIx t4 q08) (grd (z32 (gF b1 (ixO 0 t4 1))) (br (bnot (z2u (gF b1 (ixO 0 t4 1)))) (k0_ ()) (grd (okIx t4 q09) (grd (z47 (gF b2 (ixO 0 t4 1))) (br (bnot (z3l (gF b2 (ixO 0 t4 1)))) (k0_ ()) (kn_ (addI .i64 t4 1))))))))))) (grd (okIx t4 q08) (grd (z32 (gF b1 (ixO 0 t4 1))) (br (bnot (z2u (gF b1 (ixO 0 t4 1)))) (k0_ ()) (grd (okIx t4 q09) (grd (z47 (gF b2 (ixO 0 t4 1))) (br (bnot (z3l (gF b2 (ixO 0 t4 1)))) (k0_ ()) (kn_ (addI .i64 t4 1))))))))))) (br (bnot Bool.false) (k0_ ()) (br (ltI 0 t4) (grd (okIx t4 q06) (grd (okIx (subI .i64 t4 1) q06) (br (fcmp .leq .f32 (gF b0 (ixO 0 t4 1)) (gF b0 (ixO 0 (subI .i64 t4 1) 1))) (k0_ ()) (grd (okIx t4 q08) (grd (z32 (gF b1 (ixO 0 t4 1))) (br (bnot (z2u (gF b1 (ixO 0 t4 1)))) (k0_ ()) (grd (okIx t4 q09) (grd (z47 (gF b2 (ixO 0 t4 1))) (br (bnot (z3l (gF b2 (ixO 0 t4 1)))) (k0_ ()) (kn_ (addI .i64 t4 1))))))))))) (grd (okIx t4 q08) (grd (z32 (gF b1 (ixO 0 t4 1))) (br (bnot (z2u (gF b1 (ixO 0 t4 1)))) (k0_ ()) (grd (okIx t4 q09) (grd (z47 (gF b2 (ixO 0 t4 1))) (br (bnot (z3l (gF b2 (ixO 0 t4 1)))) (k0_ ()) (kn_ (addI .i64 t4 1)))))))))))) (k1_ t4 (ltI t4 t3)))
theorem zf1 (t3 : Int) (b0 : List Nat) (b1 : List Nat) (b2 : List Nat) (q06 : Nat) (q08 : Nat) (q09 : Nat) (t4 : Int) {R R' : Type} (o : Option R → Option R') (h0 : o none = none) (kn_ : Int → Option R) (k0_ : Unit → Option R) (k1_ : Int → Bool → Option R) : z2z t3 b0 b1 b2 q06 q08 q09 t4 (fun t4' => o (kn_ t4')) (fun _ => o (k0_ ())) (fun c0_ c1_ => o (k1_ c0_ c1_)) = o (z2z t3 b0 b1 b2 q06 q08 q09 t4 kn_ k0_ k1_) := by
  unfold z2z
  repeat (first | apply grd_out h0 | apply br_out | rfl | exact h0.symm)
noncomputable def z1o (t3 : Int) (b0 : List Nat) (b1 : List Nat) (b2 : List Nat) (q06 : Nat) (q08 : Nat) (q09 : Nat) : Nat → Int → Option ((Unit) ⊕ (Int × Bool))
  | 0, _ => none
  | n + 1, t4 => z2z t3 b0 b1 b2 q06 q08 q09  t4  (fun t4' => z1o t3 b0 b1 b2 q06 q08 q09 n t4') (fun _ => some (Sum.inl ())) (fun c0_ c1_ => some (Sum.inr (c0_, c1_)))
theorem zb9 (t3 : Int) (b0 : List Nat) (b1 : List Nat) (b2 : List Nat) (q06 : Nat) (q08 : Nat) (q09 : Nat) (n : Nat) (t4 : Int) : z1o t3 b0 b1 b2 q06 q08 q09 (n + 1) t4 = z2z t3 b0 b1 b2 q06 q08 q09  t4  (fun t4' => z1o t3 b0 b1 b2 q06 q08 q09 n t4') (fun _ => some (Sum.inl ())) (fun c0_ c1_ => some (Sum.inr (c0_, c1_))) := rfl
noncomputable def z3a (t3 : Int) (b0 : List Nat) (b1 : List Nat) (b2 : List Nat) (q06 : Nat) (q08 : Nat) (q09 : Nat) (t4 : Int) : Bool := (z1o t3 b0 b1 b2 q06 q08 q09 big t4).isSome
noncomputable def z33 (t3 : Int) (b0 : List Nat) (b1 : List Nat) (b2 : List Nat) (q06 : Nat) (q08 : Nat) (q09 : Nat) (t4 : Int) : Bool := oL (z1o t3 b0 b1 b2 q06 q08 q09 big t4)
noncomputable def zah (t3 : Int) (b0 : List Nat) (b1 : List Nat) (b2 : List Nat) (q06 : Nat) (q08 : Nat) (q09 : Nat) (t4 : Int) : Int := ((tR (z1o t3 b0 b1 b2 q06 q08 q09 big t4)).getD default).1
noncomputable def zaa (t3 : Int) (b0 : List Nat) (b1 : List Nat) (b2 : List Nat) (q06 : Nat) (q08 : Nat) (q09 : Nat) (t4 : Int) : Bool := ((tR (z1o t3 b0 b1 b2 q06 q08 q09 big t4)).getD default).2
theorem zfn {t3 : Int} {b0 : List Nat} {b1 : List Nat} {b2 : List Nat} {q06 : Nat} {q08 : Nat} {q09 : Nat} {t4 : Int} {m : Nat} {r : Unit} (hm : m = big) (h : z1o t3 b0 b1 b2 q06 q08 q09 m t4 = some (Sum.inl r)) : z3a t3 b0 b1 b2 q06 q08 q09 t4 = true ∧ z33 t3 b0 b1 b2 q06 q08 q09 t4 = true := by
  subst hm
  unfold z3a z33
  rw [h]
  exact ⟨rfl, rfl⟩
theorem zfr {t3 : Int} {b0 : List Nat} {b1 : List Nat} {b2 : List Nat} {q06 : Nat} {q08 : Nat} {q09 : Nat} {t4 : Int} {m : Nat} {r : Int × Bool} (hm : m = big) (h : z1o t3 b0 b1 b2 q06 q08 q09 m t4 = some (Sum.inr r)) : z3a t3 b0 b1 b2 q06 q08 q09 t4 = true ∧ z33 t3 b0 b1 b2 q06 q08 q09 t4 = false ∧ zah t3 b0 b1 b2 q06 q08 q09 t4 = r.1 ∧ zaa t3 b0 b1 b2 q06 q08 q09 t4 = r.2 := by
  subst hm
  unfold z3a z33 zah zaa
  rw [h]
  exact ⟨rfl, rfl, rfl, rfl⟩
noncomputable def z0e {R : Type} (sn : Nat) (t7 : Int) (b0 : List Nat) (t8 : Int) (kn_ : Int → Option R) (k0_ : Int → Option R) (k1_ : Int → Bool → Option R) : Option R := (br (ltI t8 t7) (grd (okIx t8 sn) (grd (z6f (gF b0 (ixO 0 t8 1))) (br (z63 (gF b0 (ixO 0 t8 1))) (k0_ t8) (kn_ (addI .i64 t8 1))))) (k1_ t8 (ltI t8 t7)))
theorem z68 (sn : Nat) (t7 : Int) (b0 : List Nat) (t8 : Int) {R R' : Type} (o : Option R → Option R') (h0 : o none = none) (kn_ : Int → Option R) (k0_ : Int → Option R) (k1_ : Int → Bool → Option R) : z0e sn t7 b0 t8 (fun t8' => o (kn_ t8')) (fun c0_ => o (k0_ c0_)) (fun c0_ c1_ => o (k1_ c0_ c1_)) = o (z0e sn t7 b0 t8 kn_ k0_ k1_) := by
  unfold z0e
  repeat (first | apply grd_out h0 | apply br_out | rfl | exact h0.symm)
noncomputable def z03 (sn : Nat) (t7 : Int) (b0 : List Nat) : Nat → Int → Option ((Int) ⊕ (Int × Bool))
  | 0, _ => none
  | n + 1, t8 => z0e sn t7 b0  t8  (fun t8' => z03 sn t7 b0 n t8') (fun c0_ => some (Sum.inl c0_)) (fun c0_ c1_ => some (Sum.inr (c0_, c1_)))
theorem z34 (sn : Nat) (t7 : Int) (b0 : List Nat) (n : Nat) (t8 : Int) : z03 sn t7 b0 (n + 1) t8 = z0e sn t7 b0  t8  (fun t8' => z03 sn t7 b0 n t8') (fun c0_ => some (Sum.inl c0_)) (fun c0_ c1_ => some (Sum.inr (c0_, c1_))) := rfl
noncomputable def z0y (sn : Nat) (t7 : Int) (b0 : List Nat) (t8 : Int) : Bool := (z03 sn t7 b0 big t8).isSome
noncomputable def z0v (sn : Nat) (t7 : Int) (b0 : List Nat) (t8 : Int) : Bool := oL (z03 sn t7 b0 big t8)
noncomputable def z1g (sn : Nat) (t7 : Int) (b0 : List Nat) (t8 : Int) : Int := ((tL (z03 sn t7 b0 big t8)).getD default)
noncomputable def z2g (sn : Nat) (t7 : Int) (b0 : List Nat) (t8 : Int) : Int := ((tR (z03 sn t7 b0 big t8)).getD default).1
noncomputable def z2f (sn : Nat) (t7 : Int) (b0 : List Nat) (t8 : Int) : Bool := ((tR (z03 sn t7 b0 big t8)).getD default).2
theorem z6u {sn : Nat} {t7 : Int} {b0 : List Nat} {t8 : Int} {m : Nat} {r : Int} (hm : m = big) (h : z03 sn t7 b0 m t8 = some (Sum.inl r)) : z0y sn t7 b0 t8 = true ∧ z0v sn t7 b0 t8 = true ∧ z1g sn t7 b0 t8 = r := by
  subst hm
  unfold z0y z0v z1g
  rw [h]
  exact ⟨rfl, rfl, rfl⟩
theorem z6y {sn : Nat} {t7 : Int} {b0 : List Nat} {t8 : Int} {m : Nat} {r : Int × Bool} (hm : m = big) (h : z03 sn t7 b0 m t8 = some (Sum.inr r)) : z0y sn t7 b0 t8 = true ∧ z0v sn t7 b0 t8 = false ∧ z2g sn t7 b0 t8 = r.1 ∧ z2f sn t7 b0 t8 = r.2 := by
  subst hm
  unfold z0y z0v z2g z2f
  rw [h]
  exact ⟨rfl, rfl, rfl, rfl⟩
noncomputable def z55 {R : Type} (q07 : Nat) (q0c : List Nat) (q0a : Nat) (q0d : List Nat) (q0b : Nat) (q0e : List Nat) (q11 : Nat) (q15 : List Nat) (q12 : Nat) (q19 : List Nat) (q13 : Nat) (q18 : List Nat) (k_ : Bool → Option R) : Option R := (grd (z4j q07 (pF q0c 0 (muN q07 1)) q11 (pF q15 0 (muN q11 1))) (br (bnot (z3w q07 (pF q0c 0 (muN q07 1)) q11 (pF q15 0 (muN q11 1)))) (k_ Bool.false) (grd (z4j q0a (pF q0d 0 (muN q0a 1)) q12 (pF q19 0 (muN q12 1))) (br (bnot (z3w q0a (pF q0d 0 (muN q0a 1)) q12 (pF q19 0 (muN q12 1)))) (k_ Bool.false) (grd (z4j q0b (pF q0e 0 (muN q0b 1)) q13 (pF q18 0 (muN q13 1))) (br (bnot (z3w q0b (pF q0e 0 (muN q0b 1)) q13 (pF q18 0 (muN q13 1)))) (k_ Bool.false) (k_ Bool.true)))))))
noncomputable def z53 (q07 : Nat) (q0c : List Nat) (q0a : Nat) (q0d : List Nat) (q0b : Nat) (q0e : List Nat) (q11 : Nat) (q15 : List Nat) (q12 : Nat) (q19 : List Nat) (q13 : Nat) (q18 : List Nat) : Option (Bool) := z55 q07 q0c q0a q0d q0b q0e q11 q15 q12 q19 q13 q18 (fun c0_ => some c0_)
theorem zeg (q07 : Nat) (q0c : List Nat) (q0a : Nat) (q0d : List Nat) (q0b : Nat) (q0e : List Nat) (q11 : Nat) (q15 : List Nat) (q12 : Nat) (q19 : List Nat) (q13 : Nat) (q18 : List Nat) {R R' : Type} (o : Option R → Option R') (h0 : o none = none) (k_ : Bool → Option R) : z55 q07 q0c q0a q0d q0b q0e q11 q15 q12 q19 q13 q18 (fun c0_ => o (k_ c0_)) = o (z55 q07 q0c q0a q0d q0b q0e q11 q15 q12 q19 q13 q18 k_) := by
  unfold z55
  repeat (first | apply grd_out h0 | apply br_out | rfl | exact h0.symm)
noncomputable def z5z (q07 : Nat) (q0c : List Nat) (q0a : Nat) (q0d : List Nat) (q0b : Nat) (q0e : List Nat) (q11 : Nat) (q15 : List Nat) (q12 : Nat) (q19 : List Nat) (q13 : Nat) (q18 : List Nat) : Bool := (z53 q07 q0c q0a q0d q0b q0e q11 q15 q12 q19 q13 q18).isSome
noncomputable def z5o (q07 : Nat) (q0c : List Nat) (q0a : Nat) (q0d : List Nat) (q0b : Nat) (q0e : List Nat) (q11 : Nat) (q15 : List Nat) (q12 : Nat) (q19 : List Nat) (q13 : Nat) (q18 : List Nat) : Bool := ((z53 q07 q0c q0a q0d q0b q0e q11 q15 q12 q19 q13 q18).getD default)
theorem zcd {q07 : Nat} {q0c : List Nat} {q0a : Nat} {q0d : List Nat} {q0b : Nat} {q0e : List Nat} {q11 : Nat} {q15 : List Nat} {q12 : Nat} {q19 : List Nat} {q13 : Nat} {q18 : List Nat} {r : Bool} (h : z53 q07 q0c q0a q0d q0b q0e q11 q15 q12 q19 q13 q18 = some r) : z5z q07 q0c q0a q0d q0b q0e q11 q15 q12 q19 q13 q18 = true ∧ z5o q07 q0c q0a q0d q0b q0e q11 q15 q12 q19 q13 q18 = r := by
  unfold z5z z5o
  rw [h]
  exact ⟨rfl, rfl⟩
noncomputable def z7y {R : Type} (q00 : Nat) (q03 : List Nat) (q01 : Nat) (q04 : List Nat) (q02 : Nat) (q05 : List Nat) (k_ : Bool → Option R) : Option R := (br (ltI (Int.ofNat q00) 2) (k_ Bool.false) (br (ltI 24 (Int.ofNat q00)) (k_ Bool.false) (br (neI (Int.ofNat q01) (Int.ofNat q00)) (k_ Bool.false) (br (neI (Int.ofNat q02) (Int.ofNat q00)) (k_ Bool.false) (grd (z3a (Int.ofNat q00) q03 q04 q05 q00 q01 q02 0) (br (z33 (Int.ofNat q00) q03 q04 q05 q00 q01 q02 0) (k_ Bool.false) (k_ Bool.true)))))))
noncomputable def z83 (q00 : Nat) (q03 : List Nat) (q01 : Nat) (q04 : List Nat) (q02 : Nat) (q05 : List Nat) : Option (Bool) := z7y q00 q03 q01 q04 q02 q05 (fun c0_ => some c0_)
theorem zgb (q00 : Nat) (q03 : List Nat) (q01 : Nat) (q04 : List Nat) (q02 : Nat) (q05 : List Nat) {R R' : Type} (o : Option R → Option R') (h0 : o none = none) (k_ : Bool → Option R) : z7y q00 q03 q01 q04 q02 q05 (fun c0_ => o (k_ c0_)) = o (z7y q00 q03 q01 q04 q02 q05 k_) := by
  unfold z7y
  repeat (first | apply grd_out h0 | apply br_out | rfl | exact h0.symm)
noncomputable def z5c (q00 : Nat) (q03 : List Nat) (q01 : Nat) (q04 : List Nat) (q02 : Nat) (q05 : List Nat) : Bool := (z83 q00 q03 q01 q04 q02 q05).isSome
noncomputable def z4r (q00 : Nat) (q03 : List Nat) (q01 : Nat) (q04 : List Nat) (q02 : Nat) (q05 : List Nat) : Bool := ((z83 q00 q03 q01 q04 q02 q05).getD default)
theorem zbx {q00 : Nat} {q03 : List Nat} {q01 : Nat} {q04 : List Nat} {q02 : Nat} {q05 : List Nat} {r : Bool} (h : z83 q00 q03 q01 q04 q02 q05 = some r) : z5c q00 q03 q01 q04 q02 q05 = true ∧ z4r q00 q03 q01 q04 q02 q05 = r := by
  unfold z5c z4r
  rw [h]
  exact ⟨rfl, rfl⟩
noncomputable def z15 {R : Type} (s_n : Nat) (s : List Nat) (k_ : Int → Option R) : Option R := (grd (z0y s_n (Int.ofNat s_n) s 0) (br (z0v s_n (Int.ofNat s_n) s 0) (k_ (z1g s_n (Int.ofNat s_n) s 0)) (k_ (Int.negSucc 0))))
noncomputable def z14 (s_n : Nat) (s : List Nat) : Option (Int) := z15 s_n s (fun c0_ => some c0_)
theorem z77 (s_n : Nat) (s : List Nat) {R R' : Type} (o : Option R → Option R') (h0 : o none = none) (k_ : Int → Option R) : z15 s_n s (fun c0_ => o (k_ c0_)) = o (z15 s_n s k_) := by
  unfold z15
  repeat (first | apply grd_out h0 | apply br_out | rfl | exact h0.symm)
noncomputable def z24 (s_n : Nat) (s : List Nat) : Bool := (z14 s_n s).isSome
noncomputable def z22 (s_n : Nat) (s : List Nat) : Int := ((z14 s_n s).getD default)
theorem z94 {s_n : Nat} {s : List Nat} {r : Int} (h : z14 s_n s = some r) : z24 s_n s = true ∧ z22 s_n s = r := by
  unfold z24 z22
  rw [h]
  exact ⟨rfl, rfl⟩
noncomputable def z0f {R : Type} (sn : Nat) (t7 : Int) (b0 : List Nat) (t8 : Int) (kn_ : Int → Option R) (k0_ : Int → Option R) (k1_ : Int → Bool → Option R) : Option R := (br (ltI t8 t7) (grd (okIx t8 sn) (grd (z7r (gF b0 (ixO 0 t8 1))) (br (z6l (gF b0 (ixO 0 t8 1))) (k0_ t8) (kn_ (addI .i64 t8 1))))) (k1_ t8 (ltI t8 t7)))
theorem z6p (sn : Nat) (t7 : Int) (b0 : List Nat) (t8 : Int) {R R' : Type} (o : Option R → Option R') (h0 : o none = none) (kn_ : Int → Option R) (k0_ : Int → Option R) (k1_ : Int → Bool → Option R) : z0f sn t7 b0 t8 (fun t8' => o (kn_ t8')) (fun c0_ => o (k0_ c0_)) (fun c0_ c1_ => o (k1_ c0_ c1_)) = o (z0f sn t7 b0 t8 kn_ k0_ k1_) := by
  unfold z0f
  repeat (first | apply grd_out h0 | apply br_out | rfl | exact h0.symm)
noncomputable def z04 (sn : Nat) (t7 : Int) (b0 : List Nat) : Nat → Int → Option ((Int) ⊕ (Int × Bool))
  | 0, _ => none
  | n + 1, t8 => z0f sn t7 b0  t8  (fun t8' => z04 sn t7 b0 n t8') (fun c0_ => some (Sum.inl c0_)) (fun c0_ c1_ => some (Sum.inr (c0_, c1_)))
theorem z37 (sn : Nat) (t7 : Int) (b0 : List Nat) (n : Nat) (t8 : Int) : z04 sn t7 b0 (n + 1) t8 = z0f sn t7 b0  t8  (fun t8' => z04 sn t7 b0 n t8') (fun c0_ => some (Sum.inl c0_)) (fun c0_ c1_ => some (Sum.inr (c0_, c1_))) := rfl
noncomputable def z12 (sn : Nat) (t7 : Int) (b0 : List Nat) (t8 : Int) : Bool := (z04 sn t7 b0 big t8).isSome
noncomputable def z0x (sn : Nat) (t7 : Int) (b0 : List Nat) (t8 : Int) : Bool := oL (z04 sn t7 b0 big t8)
noncomputable def z1j (sn : Nat) (t7 : Int) (b0 : List Nat) (t8 : Int) : Int := ((tL (z04 sn t7 b0 big t8)).getD default)
noncomputable def z2j (sn : Nat) (t7 : Int) (b0 : List Nat) (t8 : Int) : Int := ((tR (z04 sn t7 b0 big t8)).getD default).1
noncomputable def z2i (sn : Nat) (t7 : Int) (b0 : List Nat) (t8 : Int) : Bool := ((tR (z04 sn t7 b0 big t8)).getD default).2
theorem z76 {sn : Nat} {t7 : Int} {b0 : List Nat} {t8 : Int} {m : Nat} {r : Int} (hm : m = big) (h : z04 sn t7 b0 m t8 = some (Sum.inl r)) : z12 sn t7 b0 t8 = true ∧ z0x sn t7 b0 t8 = true ∧ z1j sn t7 b0 t8 = r := by
  subst hm
  unfold z12 z0x z1j
  rw [h]
  exact ⟨rfl, rfl, rfl⟩
theorem z7a {sn : Nat} {t7 : Int} {b0 : List Nat} {t8 : Int} {m : Nat} {r : Int × Bool} (hm : m = big) (h : z04 sn t7 b0 m t8 = some (Sum.inr r)) : z12 sn t7 b0 t8 = true ∧ z0x sn t7 b0 t8 = false ∧ z2j sn t7 b0 t8 = r.1 ∧ z2i sn t7 b0 t8 = r.2 := by
  subst hm
  unfold z12 z0x z2j z2i
  rw [h]
  exact ⟨rfl, rfl, rfl, rfl⟩
noncomputable def z17 {R : Type} (s_n : Nat) (s : List Nat) (k_ : Int → Option R) : Option R := (grd (z12 s_n (Int.ofNat s_n) s 0) (br (z0x s_n (Int.ofNat s_n) s 0) (k_ (z1j s_n (Int.ofNat s_n) s 0)) (k_ (Int.negSucc 0))))
noncomputable def z16 (s_n : Nat) (s : List Nat) : Option (Int) := z17 s_n s (fun c0_ => some c0_)
theorem z7u (s_n : Nat) (s : List Nat) {R R' : Type} (o : Option R → Option R') (h0 : o none = none) (k_ : Int → Option R) : z17 s_n s (fun c0_ => o (k_ c0_)) = o (z17 s_n s k_) := by
  unfold z17
  repeat (first | apply grd_out h0 | apply br_out | rfl | exact h0.symm)
noncomputable def z28 (s_n : Nat) (s : List Nat) : Bool := (z16 s_n s).isSome
noncomputable def z25 (s_n : Nat) (s : List Nat) : Int := ((z16 s_n s).getD default)
theorem z9b {s_n : Nat} {s : List Nat} {r : Int} (h : z16 s_n s = some r) : z28 s_n s = true ∧ z25 s_n s = r := by
  unfold z28 z25
  rw [h]
  exact ⟨rfl, rfl⟩
noncomputable def z0z {R : Type} (s_n : Nat) (s : List Nat) (k_ : Bool → Option R) : Option R := (grd (z24 s_n (pF s 0 (muN s_n 1))) (k_ (leI 0 (z22 s_n (pF s 0 (muN s_n 1))))))
noncomputable def z0w (s_n : Nat) (s : List Nat) : Option (Bool) := z0z s_n s (fun c0_ => some c0_)
theorem z65 (s_n : Nat) (s : List Nat) {R R' : Type} (o : Option R → Option R') (h0 : o none = none) (k_ : Bool → Option R) : z0z s_n s (fun c0_ => o (k_ c0_)) = o (z0z s_n s k_) := by
  unfold z0z
  repeat (first | apply grd_out h0 | apply br_out | rfl | exact h0.symm)
noncomputable def z1q (s_n : Nat) (s : List Nat) : Bool := (z0w s_n s).isSome
noncomputable def z1n (s_n : Nat) (s : List Nat) : Bool := ((z0w s_n s).getD default)
theorem z7e {s_n : Nat} {s : List Nat} {r : Bool} (h : z0w s_n s = some r) : z1q s_n s = true ∧ z1n s_n s = r := by
  unfold z1q z1n
  rw [h]
  exact ⟨rfl, rfl⟩
noncomputable def z13 {R : Type} (s_n : Nat) (s : List Nat) (k_ : Bool → Option R) : Option R := (grd (z28 s_n (pF s 0 (muN s_n 1))) (k_ (leI 0 (z25 s_n (pF s 0 (muN s_n 1))))))
noncomputable def z11 (s_n : Nat) (s : List Nat) : Option (Bool) := z13 s_n s (fun c0_ => some c0_)
theorem z6t (s_n : Nat) (s : List Nat) {R R' : Type} (o : Option R → Option R') (h0 : o none = none) (k_ : Bool → Option R) : z13 s_n s (fun c0_ => o (k_ c0_)) = o (z13 s_n s k_) := by
  unfold z13
  repeat (first | apply grd_out h0 | apply br_out | rfl | exact h0.symm)
noncomputable def z1u (s_n : Nat) (s : List Nat) : Bool := (z11 s_n s).isSome
noncomputable def z1p (s_n : Nat) (s : List Nat) : Bool := ((z11 s_n s).getD default)
theorem z81 {s_n : Nat} {s : List Nat} {r : Bool} (h : z11 s_n s = some r) : z1u s_n s = true ∧ z1p s_n s = r := by
  unfold z1u z1p
  rw [h]
  exact ⟨rfl, rfl⟩
noncomputable def z52 {R : Type} (q0v : Nat) (q16 : List Nat) (k_ : Bool → Option R) : Option R := (grd (z1q q0v (pF q16 0 (muN q0v 1))) (k_ (bnot (z1n q0v (pF q16 0 (muN q0v 1))))))
noncomputable def z54 (q0v : Nat) (q16 : List Nat) : Option (Bool) := z52 q0v q16 (fun c0_ => some c0_)
theorem zeb (q0v : Nat) (q16 : List Nat) {R R' : Type} (o : Option R → Option R') (h0 : o none = none) (k_ : Bool → Option R) : z52 q0v q16 (fun c0_ => o (k_ c0_)) = o (z52 q0v q16 k_) := by
  unfold z52
  repeat (first | apply grd_out h0 | apply br_out | rfl | exact h0.symm)
noncomputable def z97 (q0v : Nat) (q16 : List Nat) : Bool := (z54 q0v q16).isSome
noncomputable def z7k (q0v : Nat) (q16 : List Nat) : Bool := ((z54 q0v q16).getD default)
theorem zfm {q0v : Nat} {q16 : List Nat} {r : Bool} (h : z54 q0v q16 = some r) : z97 q0v q16 = true ∧ z7k q0v q16 = r := by
  unfold z97 z7k
  rw [h]
  exact ⟨rfl, rfl⟩
noncomputable def z5e {R : Type} (q0v : Nat) (q16 : List Nat) (k_ : Bool → Option R) : Option R := (grd (z1u q0v (pF q16 0 (muN q0v 1))) (k_ (bnot (z1p q0v (pF q16 0 (muN q0v 1))))))
noncomputable def z5i (q0v : Nat) (q16 : List Nat) : Option (Bool) := z5e q0v q16 (fun c0_ => some c0_)
theorem zf4 (q0v : Nat) (q16 : List Nat) {R R' : Type} (o : Option R → Option R') (h0 : o none = none) (k_ : Bool → Option R) : z5e q0v q16 (fun c0_ => o (k_ c0_)) = o (z5e q0v q16 k_) := by
  unfold z5e
  repeat (first | apply grd_out h0 | apply br_out | rfl | exact h0.symm)
noncomputable def za2 (q0v : Nat) (q16 : List Nat) : Bool := (z5i q0v q16).isSome
noncomputable def z8u (q0v : Nat) (q16 : List Nat) : Bool := ((z5i q0v q16).getD default)
theorem zg6 {q0v : Nat} {q16 : List Nat} {r : Bool} (h : z5i q0v q16 = some r) : za2 q0v q16 = true ∧ z8u q0v q16 = r := by
  unfold za2 z8u
  rw [h]
  exact ⟨rfl, rfl⟩
noncomputable def z1v {R : Type} (t1 : Nat) (t2 : Nat) (t3 : Nat) (b0 : List Nat) (b1 : List Nat) (b2 : List Nat) (q06 : Nat) (q08 : Nat) (q09 : Nat) (t11 : Bool) (t12 : Int) (q0t : Nat) (q0u : Nat) (q0s : Nat) (b6 : List Nat) (b7 : List Nat) (b8 : List Nat) (kn_ : Bool → Int → Nat → Nat → Nat → (List Nat) → (List Nat) → (List Nat) → Option R) (k0_ : Bool → Int → Bool → Nat → Nat → Nat → (List Nat) → (List Nat) → (List Nat) → Option R) : Option R := (br (ltI t12 (Int.ofNat q06)) (br (bnot t11) (grd (okIx t12 q06) (br (fcmp .lss .f32 t1 (gF b0 (ixO 0 t12 1))) (grd (okA2 q0t 1 4 (nF (pF [t1] 0 (muN 1 1))) (nF b6) 1) (grd (okA2 q0u 1 4 (nF (pF [t2] 0 (muN 1 1))) (nF b7) 1) (grd (okA2 q0s 1 4 (nF (pF [t3] 0 (muN 1 1))) (nF b8) 1) (grd (okIx t12 q06) (grd (okIx t12 q08) (grd (okIx t12 q09) (grd (okA2 (adN q0t 1) 1 4 (nF (pF [(gF b0 (ixO 0 t12 1))] 0 (muN 1 1))) (nF (aF b6 (pF [t1] 0 (muN 1 1)))) 1) (grd (okA2 (adN q0u 1) 1 4 (nF (pF [(gF b1 (ixO 0 t12 1))] 0 (muN 1 1))) (nF (aF b7 (pF [t2] 0 (muN 1 1)))) 1) (grd (okA2 (adN q0s 1) 1 4 (nF (pF [(gF b2 (ixO 0 t12 1))] 0 (muN 1 1))) (nF (aF b8 (pF [t3] 0 (muN 1 1)))) 1) (kn_ Bool.true (addI .i64 t12 1) (adN (adN q0t 1) 1) (adN (adN q0u 1) 1) (adN (adN q0s 1) 1) (aF (aF b6 (pF [t1] 0 (muN 1 1))) (pF [(gF b0 (ixO 0 t12 1))] 0 (muN 1 1))) (aF (aF b7 (pF [t2] 0 (muN 1 1))) (pF [(gF b1 (ixO 0 t12 1))] 0 (muN 1 1))) (aF (aF b8 (pF [t3] 0 (muN 1 1))) (pF [(gF b2 (ixO 0 t12 1))] 0 (muN 1 1))))))))))))) (grd (okIx t12 q06) (grd (okIx t12 q08) (grd (okIx t12 q09) (grd (okA2 q0t 1 4 (nF (pF [(gF b0 (ixO 0 t12 1))] 0 (muN 1 1))) (nF b6) 1) (grd (okA2 q0u 1 4 (nF (pF [(gF b1 (ixO 0 t12 1))] 0 (muN 1 1))) (nF b7) 1) (grd (okA2 q0s 1 4 (nF (pF [(gF b2 (ixO 0 t12 1))] 0 (muN 1 1))) (nF b8) 1) (kn_ t11 (addI .i64 t12 1) (adN q0t 1) (adN q0u 1) (adN q0s 1) (aF b6 (pF [(gF b0 (ixO 0 t12 1))] 0 (muN 1 1))) (aF b7 (pF [(gF b1 (ixO 0 t12 1))] 0 (muN 1 1))) (aF b8 (pF [(gF b2 (ixO 0 t12 1))] 0 (muN 1 1)))))))))))) (grd (okIx t12 q06) (grd (okIx t12 q08) (grd (okIx t12 q09) (grd (okA2 q0t 1 4 (nF (pF [(gF b0 (ixO 0 t12 1))] 0 (muN 1 1))) (nF b6) 1) (grd (okA2 q0u 1 4 (nF (pF [(gF b1 (ixO 0 t12 1))] 0 (muN 1 1))) (nF b7) 1) (grd (okA2 q0s 1 4 (nF (pF [(gF b2 (ixO 0 t12 1))] 0 (muN 1 1))) (nF b8) 1) (kn_ t11 (addI .i64 t12 1) (adN q0t 1) (adN q0u 1) (adN q0s 1) (aF b6 (pF [(gF b0 (ixO 0 t12 1))] 0 (muN 1 1))) (aF b7 (pF [(gF b1 (ixO 0 t12 1))] 0 (muN 1 1))) (aF b8 (pF [(gF b2 (ixO 0 t12 1))] 0 (muN 1 1))))))))))) (k0_ t11 t12 (ltI t12 (Int.ofNat q06)) q0t q0u q0s b6 b7 b8))
theorem ze0 (t1 : Nat) (t2 : Nat) (t3 : Nat) (b0 : List Nat) (b1 : List Nat) (b2 : List Nat) (q06 : Nat) (q08 : Nat) (q09 : Nat) (t11 : Bool) (t12 : Int) (q0t : Nat) (q0u : Nat) (q0s : Nat) (b6 : List Nat) (b7 : List Nat) (b8 : List Nat) {R R' : Type} (o : Option R → Option R') (h0 : o none = none) (kn_ : Bool → Int → Nat → Nat → Nat → (List Nat) → (List Nat) → (List Nat) → Option R) (k0_ : Bool → Int → Bool → Nat → Nat → Nat → (List Nat) → (List Nat) → (List Nat) → Option R) : z1v t1 t2 t3 b0 b1 b2 q06 q08 q09 t11 t12 q0t q0u q0s b6 b7 b8 (fun t11' t12' q0t' q0u' q0s' b6' b7' b8' => o (kn_ t11' t12' q0t' q0u' q0s' b6' b7' b8')) (fun c0_ c1_ c2_ c3_ c4_ c5_ c6_ c7_ c8_ => o (k0_ c0_ c1_ c2_ c3_ c4_ c5_ c6_ c7_ c8_)) = o (z1v t1 t2 t3 b0 b1 b2 q06 q08 q09 t11 t12 q0t q0u q0s b6 b7 b8 kn_ k0_) := by
  unfold z1v
  repeat (first | apply grd_out h0 | apply br_out | rfl | exact h0.symm)
noncomputable def z0l (t1 : Nat) (t2 : Nat) (t3 : Nat) (b0 : List Nat) (b1 : List Nat) (b2 : List Nat) (q06 : Nat) (q08 : Nat) (q09 : Nat) : Nat → Bool → Int → Nat → Nat → Nat → (List Nat) → (List Nat) → (List Nat) → Option ((Bool × Int × Bool × Nat × Nat × Nat × (List Nat) × (List Nat) × (List Nat)))
  | 0, _, _, _, _, _, _, _, _ => none
  | n + 1, t11, t12, q0t, q0u, q0s, b6, b7, b8 => z1v t1 t2 t3 b0 b1 b2 q06 q08 q09  t11 t12 q0t q0u q0s b6 b7 b8  (fun t11' t12' q0t' q0u' q0s' b6' b7' b8' => z0l t1 t2 t3 b0 b1 b2 q06 q08 q09 n t11' t12' q0t' q0u' q0s' b6' b7' b8') (fun c0_ c1_ c2_ c3_ c4_ c5_ c6_ c7_ c8_ => some (c0_, c1_, c2_, c3_, c4_, c5_, c6_, c7_, c8_))
theorem z5b (t1 : Nat) (t2 : Nat) (t3 : Nat) (b0 : List Nat) (b1 : List Nat) (b2 : List Nat) (q06 : Nat) (q08 : Nat) (q09 : Nat) (n : Nat) (t11 : Bool) (t12 : Int) (q0t : Nat) (q0u : Nat) (q0s : Nat) (b6 : List Nat) (b7 : List Nat) (b8 : List Nat) : z0l t1 t2 t3 b0 b1 b2 q06 q08 q09 (n + 1) t11 t12 q0t q0u q0s b6 b7 b8 = z1v t1 t2 t3 b0 b1 b2 q06 q08 q09  t11 t12 q0t q0u q0s b6 b7 b8  (fun t11' t12' q0t' q0u' q0s' b6' b7' b8' => z0l t1 t2 t3 b0 b1 b2 q06 q08 q09 n t11' t12' q0t' q0u' q0s' b6' b7' b8') (fun c0_ c1_ c2_ c3_ c4_ c5_ c6_ c7_ c8_ => some (c0_, c1_, c2_, c3_, c4_, c5_, c6_, c7_, c8_)) := rfl
noncomputable def z5n (t1 : Nat) (t2 : Nat) (t3 : Nat) (b0 : List Nat) (b1 : List Nat) (b2 : List Nat) (q06 : Nat) (q08 : Nat) (q09 : Nat) (t11 : Bool) (t12 : Int) (q0t : Nat) (q0u : Nat) (q0s : Nat) (b6 : List Nat) (b7 : List Nat) (b8 : List Nat) : Bool := (z0l t1 t2 t3 b0 b1 b2 q06 q08 q09 big t11 t12 q0t q0u q0s b6 b7 b8).isSome
noncomputable def z4a (t1 : Nat) (t2 : Nat) (t3 : Nat) (b0 : List Nat) (b1 : List Nat) (b2 : List Nat) (q06 : Nat) (q08 : Nat) (q09 : Nat) (t11 : Bool) (t12 : Int) (q0t : Nat) (q0u : Nat) (q0s : Nat) (b6 : List Nat) (b7 : List Nat) (b8 : List Nat) : Bool := ((z0l t1 t2 t3 b0 b1 b2 q06 q08 q09 big t11 t12 q0t q0u q0s b6 b7 b8).getD default).1
noncomputable def z92 (t1 : Nat) (t2 : Nat) (t3 : Nat) (b0 : List Nat) (b1 : List Nat) (b2 : List Nat) (q06 : Nat) (q08 : Nat) (q09 : Nat) (t11 : Bool) (t12 : Int) (q0t : Nat) (q0u : Nat) (q0s : Nat) (b6 : List Nat) (b7 : List Nat) (b8 : List Nat) : Int := ((z0l t1 t2 t3 b0 b1 b2 q06 q08 q09 big t11 t12 q0t q0u q0s b6 b7 b8).getD default).2.1
noncomputable def z8p (t1 : Nat) (t2 : Nat) (t3 : Nat) (b0 : List Nat) (b1 : List Nat) (b2 : List Nat) (q06 : Nat) (q08 : Nat) (q09 : Nat) (t11 : Bool) (t12 : Int) (q0t : Nat) (q0u : Nat) (q0s : Nat) (b6 : List Nat) (b7 : List Nat) (b8 : List Nat) : Bool := ((z0l t1 t2 t3 b0 b1 b2 q06 q08 q09 big t11 t12 q0t q0u q0s b6 b7 b8).getD default).2.2.1
noncomputable def z0d (t1 : Nat) (t2 : Nat) (t3 : Nat) (b0 : List Nat) (b1 : List Nat) (b2 : List Nat) (q06 : Nat) (q08 : Nat) (q09 : Nat) (t11 : Bool) (t12 : Int) (q0t : Nat) (q0u : Nat) (q0s : Nat) (b6 : List Nat) (b7 : List Nat) (b8 : List Nat) : Nat := ((z0l t1 t2 t3 b0 b1 b2 q06 q08 q09 big t11 t12 q0t q0u q0s b6 b7 b8).getD default).2.2.2.1
noncomputable def z0c (t1 : Nat) (t2 : Nat) (t3 : Nat) (b0 : List Nat) (b1 : List Nat) (b2 : List Nat) (q06 : Nat) (q08 : Nat) (q09 : Nat) (t11 : Bool) (t12 : Int) (q0t : Nat) (q0u : Nat) (q0s : Nat) (b6 : List Nat) (b7 : List Nat) (b8 : List Nat) : Nat := ((z0l t1 t2 t3 b0 b1 b2 q06 q08 q09 big t11 t12 q0t q0u q0s b6 b7 b8).getD default).2.2.2.2.1
noncomputable def z0b (t1 : Nat) (t2 : Nat) (t3 : Nat) (b0 : List Nat) (b1 : List Nat) (b2 : List Nat) (q06 : Nat) (q08 : Nat) (q09 : Nat) (t11 : Bool) (t12 : Int) (q0t : Nat) (q0u : Nat) (q0s : Nat) (b6 : List Nat) (b7 : List Nat) (b8 : List Nat) : Nat := ((z0l t1 t2 t3 b0 b1 b2 q06 q08 q09 big t11 t12 q0t q0u q0s b6 b7 b8).getD default).2.2.2.2.2.1
noncomputable def z0k (t1 : Nat) (t2 : Nat) (t3 : Nat) (b0 : List Nat) (b1 : List Nat) (b2 : List Nat) (q06 : Nat) (q08 : Nat) (q09 : Nat) (t11 : Bool) (t12 : Int) (q0t : Nat) (q0u : Nat) (q0s : Nat) (b6 : List Nat) (b7 : List Nat) (b8 : List Nat) : List Nat := ((z0l t1 t2 t3 b0 b1 b2 q06 q08 q09 big t11 t12 q0t q0u q0s b6 b7 b8).getD default).2.2.2.2.2.2.1
noncomputable def z0j (t1 : Nat) (t2 : Nat) (t3 : Nat) (b0 : List Nat) (b1 : List Nat) (b2 : List Nat) (q06 : Nat) (q08 : Nat) (q09 : Nat) (t11 : Bool) (t12 : Int) (q0t : Nat) (q0u : Nat) (q0s : Nat) (b6 : List Nat) (b7 : List Nat) (b8 : List Nat) : List Nat := ((z0l t1 t2 t3 b0 b1 b2 q06 q08 q09 big t11 t12 q0t q0u q0s b6 b7 b8).getD default).2.2.2.2.2.2.2.1
noncomputable def z0i (t1 : Nat) (t2 : Nat) (t3 : Nat) (b0 : List Nat) (b1 : List Nat) (b2 : List Nat) (q06 : Nat) (q08 : Nat) (q09 : Nat) (t11 : Bool) (t12 : Int) (q0t : Nat) (q0u : Nat) (q0s : Nat) (b6 : List Nat) (b7 : List Nat) (b8 : List Nat) : List Nat := ((z0l t1 t2 t3 b0 b1 b2 q06 q08 q09 big t11 t12 q0t q0u q0s b6 b7 b8).getD default).2.2.2.2.2.2.2.2
theorem zez {t1 : Nat} {t2 : Nat} {t3 : Nat} {b0 : List Nat} {b1 : List Nat} {b2 : List Nat} {q06 : Nat} {q08 : Nat} {q09 : Nat} {t11 : Bool} {t12 : Int} {q0t : Nat} {q0u : Nat} {q0s : Nat} {b6 : List Nat} {b7 : List Nat} {b8 : List Nat} {m : Nat} {r : Bool × Int × Bool × Nat × Nat × Nat × (List Nat) × (List Nat) × (List Nat)} (hm : m = big) (h : z0l t1 t2 t3 b0 b1 b2 q06 q08 q09 m t11 t12 q0t q0u q0s b6 b7 b8 = some r) : z5n t1 t2 t3 b0 b1 b2 q06 q08 q09 t11 t12 q0t q0u q0s b6 b7 b8 = true ∧ z4a t1 t2 t3 b0 b1 b2 q06 q08 q09 t11 t12 q0t q0u q0s b6 b7 b8 = r.1 ∧ z92 t1 t2 t3 b0 b1 b2 q06 q08 q09 t11 t12 q0t q0u q0s b6 b7 b8 = r.2.1 ∧ z8p t1 t2 t3 b0 b1 b2 q06 q08 q09 t11 t12 q0t q0u q0s b6 b7 b8 = r.2.2.1 ∧ z0d t1 t2 t3 b0 b1 b2 q06 q08 q09 t11 t12 q0t q0u q0s b6 b7 b8 = r.2.2.2.1 ∧ z0c t1 t2 t3 b0 b1 b2 q06 q08 q09 t11 t12 q0t q0u q0s b6 b7 b8 = r.2.2.2.2.1 ∧ z0b t1 t2 t3 b0 b1 b2 q06 q08 q09 t11 t12 q0t q0u q0s b6 b7 b8 = r.2.2.2.2.2.1 ∧ z0k t1 t2 t3 b0 b1 b2 q06 q08 q09 t11 t12 q0t q0u q0s b6 b7 b8 = r.2.2.2.2.2.2.1 ∧ z0j t1 t2 t3 b0 b1 b2 q06 q08 q09 t11 t12 q0t q0u q0s b6 b7 b8 = r.2.2.2.2.2.2.2.1 ∧ z0i t1 t2 t3 b0 b1 b2 q06 q08 q09 t11 t12 q0t q0u q0s b6 b7 b8 = r.2.2.2.2.2.2.2.2 := by
  subst hm
  unfold z5n z4a z92 z8p z0d z0c z0b z0k z0j z0i
  rw [h]
  exact ⟨rfl, rfl, rfl, rfl, rfl, rfl, rfl, rfl, rfl, rfl⟩
noncomputable def z57 {R : Type} (q00 : Nat) (q03 : List Nat) (q01 : Nat) (q04 : List Nat) (q02 : Nat) (q05 : List Nat) (x1 : Nat) (x2 : Nat) (x3 : Nat) (k_ : Nat → Nat → Nat → Bool → (List Nat) → (List Nat) → (List Nat) → Option R) : Option R := (grd (z5c q00 (pF q03 0 (muN q00 1)) q01 (pF q04 0 (muN q01 1)) q02 (pF q05 0 (muN q02 1))) (br (bnot (z4r q00 (pF q03 0 (muN q00 1)) q01 (pF q04 0 (muN q01 1)) q02 (pF q05 0 (muN q02 1)))) (k_ 0 0 0 Bool.false [] [] []) (br (fcmp .geq .f32 x1 3204448256) (br (bnot (fcmp .leq .f32 x1 1056964608)) (k_ 0 0 0 Bool.false [] [] []) (grd z98 (grd (z5n x1 x2 x3 q03 q04 q05 q00 q01 q02 Bool.false 0 0 0 0 z00 z01 z02) (br (bnot (z4a x1 x2 x3 q03 q04 q05 q00 q01 q02 Bool.false 0 0 0 0 z00 z01 z02)) (grd (okA2 (z0d x1 x2 x3 q03 q04 q05 q00 q01 q02 Bool.false 0 0 0 0 z00 z01 z02) 1 4 (nF (pF [x1] 0 (muN 1 1))) (nF (z0k x1 x2 x3 q03 q04 q05 q00 q01 q02 Bool.false 0 0 0 0 z00 z01 z02)) 1) (grd (okA2 (z0c x1 x2 x3 q03 q04 q05 q00 q01 q02 Bool.false 0 0 0 0 z00 z01 z02) 1 4 (nF (pF [x2] 0 (muN 1 1))) (nF (z0j x1 x2 x3 q03 q04 q05 q00 q01 q02 Bool.false 0 0 0 0 z00 z01 z02)) 1) (grd (okA2 (z0b x1 x2 x3 q03 q04 q05 q00 q01 q02 Bool.false 0 0 0 0 z00 z01 z02) 1 4 (nF (pF [x3] 0 (muN 1 1))) (nF (z0i x1 x2 x3 q03 q04 q05 q00 q01 q02 Bool.false 0 0 0 0 z00 z01 z02)) 1) (grd (z5c (adN (z0d x1 x2 x3 q03 q04 q05 q00 q01 q02 Bool.false 0 0 0 0 z00 z01 z02) 1) (pF (aF (z0k x1 x2 x3 q03 q04 q05 q00 q01 q02 Bool.false 0 0 0 0 z00 z01 z02) (pF [x1] 0 (muN 1 1))) 0 (muN (adN (z0d x1 x2 x3 q03 q04 q05 q00 q01 q02 Bool.false 0 0 0 0 z00 z01 z02) 1) 1)) (adN (z0c x1 x2 x3 q03 q04 q05 q00 q01 q02 Bool.false 0 0 0 0 z00 z01 z02) 1) (pF (aF (z0j x1 x2 x3 q03 q04 q05 q00 q01 q02 Bool.false 0 0 0 0 z00 z01 z02) (pF [x2] 0 (muN 1 1))) 0 (muN (adN (z0c x1 x2 x3 q03 q04 q05 q00 q01 q02 Bool.false 0 0 0 0 z00 z01 z02) 1) 1)) (adN (z0b x1 x2 x3 q03 q04 q05 q00 q01 q02 Bool.false 0 0 0 0 z00 z01 z02) 1) (pF (aF (z0i x1 x2 x3 q03 q04 q05 q00 q01 q02 Bool.false 0 0 0 0 z00 z01 z02) (pF [x3] 0 (muN 1 1))) 0 (muN (adN (z0b x1 x2 x3 q03 q04 q05 q00 q01 q02 Bool.false 0 0 0 0 z00 z01 z02) 1) 1))) (br (bnot (z4r (adN (z0d x1 x2 x3 q03 q04 q05 q00 q01 q02 Bool.false 0 0 0 0 z00 z01 z02) 1) (pF (aF (z0k x1 x2 x3 q03 q04 q05 q00 q01 q02 Bool.false 0 0 0 0 z00 z01 z02) (pF [x1] 0 (muN 1 1))) 0 (muN (adN (z0d x1 x2 x3 q03 q04 q05 q00 q01 q02 Bool.false 0 0 0 0 z00 z01 z02) 1) 1)) (adN (z0c x1 x2 x3 q03 q04 q05 q00 q01 q02 Bool.false 0 0 0 0 z00 z01 z02) 1) (pF (aF (z0j x1 x2 x3 q03 q04 q05 q00 q01 q02 Bool.false 0 0 0 0 z00 z01 z02) (pF [x2] 0 (muN 1 1))) 0 (muN (adN (z0c x1 x2 x3 q03 q04 q05 q00 q01 q02 Bool.false 0 0 0 0 z00 z01 z02) 1) 1)) (adN (z0b x1 x2 x3 q03 q04 q05 q00 q01 q02 Bool.false 0 0 0 0 z00 z01 z02) 1) (pF (aF (z0i x1 x2 x3 q03 q04 q05 q00 q01 q02 Bool.false 0 0 0 0 z00 z01 z02) (pF [x3] 0 (muN 1 1))) 0 (muN (adN (z0b x1 x2 x3 q03 q04 q05 q00 q01 q02 Bool.false 0 0 0 0 z00 z01 z02) 1) 1)))) (k_ 0 0 0 Bool.false [] [] []) (k_ (adN (z0d x1 x2 x3 q03 q04 q05 q00 q01 q02 Bool.false 0 0 0 0 z00 z01 z02) 1) (adN (z0c x1 x2 x3 q03 q04 q05 q00 q01 q02 Bool.false 0 0 0 0 z00 z01 z02) 1) (adN (z0b x1 x2 x3 q03 q04 q05 q00 q01 q02 Bool.false 0 0 0 0 z00 z01 z02) 1) Bool.true (aF (z0k x1 x2 x3 q03 q04 q05 q00 q01 q02 Bool.false 0 0 0 0 z00 z01 z02) (pF [x1] 0 (muN 1 1))) (aF (z0j x1 x2 x3 q03 q04 q05 q00 q01 q02 Bool.false 0 0 0 0 z00 z01 z02) (pF [x2] 0 (muN 1 1))) (aF (z0i x1 x2 x3 q03 q04 q05 q00 q01 q02 Bool.false 0 0 0 0 z00 z01 z02) (pF [x3] 0 (muN 1 1))))))))) (grd (z5c (z0d x1 x2 x3 q03 q04 q05 q00 q01 q02 Bool.false 0 0 0 0 z00 z01 z02) (pF (z0k x1 x2 x3 q03 q04 q05 q00 q01 q02 Bool.false 0 0 0 0 z00 z01 z02) 0 (muN (z0d x1 x2 x3 q03 q04 q05 q00 q01 q02 Bool.false 0 0 0 0 z00 z01 z02) 1)) (z0c x1 x2 x3 q03 q04 q05 q00 q01 q02 Bool.false 0 0 0 0 z00 z01 z02) (pF (z0j x1 x2 x3 q03 q04 q05 q00 q01 q02 Bool.false 0 0 0 0 z00 z01 z02) 0 (muN (z0c x1 x2 x3 q03 q04 q05 q00 q01 q02 Bool.false 0 0 0 0 z00 z01 z02) 1)) (z0b x1 x2 x3 q03 q04 q05 q00 q01 q02 Bool.false 0 0 0 0 z00 z01 z02) (pF (z0i x1 x2 x3 q03 q04 q05 q00 q01 q02 Bool.false 0 0 0 0 z00 z01 z02) 0 (muN (z0b x1 x2 x3 q03 q04 q05 q00 q01 q02 Bool.false 0 0 0 0 z00 z01 z02) 1))) (br (bnot (z4r (z0d x1 x2 x3 q03 q04 q05 q00 q01 q02 Bool.false 0 0 0 0 z00 z01 z02) (pF (z0k x1 x2 x3 q03 q04 q05 q00 q01 q02 Bool.false 0 0 0 0 z00 z01 z02) 0 (muN (z0d x1 x2 x3 q03 q04 q05 q00 q01 q02 Bool.false 0 0 0 0 z00 z01 z02) 1)) (z0c x1 x2 x3 q03 q04 q05 q00 q01 q02 Bool.false 0 0 0 0 z00 z01 z02) (pF (z0j x1 x2 x3 q03 q04 q05 q00 q01 q02 Bool.false 0 0 0 0 z00 z01 z02) 0 (muN (z0c x1 x2 x3 q03 q04 q05 q00 q01 q02 Bool.false 0 0 0 0 z00 z01 z02) 1)) (z0b x1 x2 x3 q03 q04 q05 q00 q01 q02 Bool.false 0 0 0 0 z00 z01 z02) (pF (z0i x1 x2 x3 q03 q04 q05 q00 q01 q02 Bool.false 0 0 0 0 z00 z01 z02) 0 (muN (z0b x1 x2 x3 q03 q04 q05 q00 q01 q02 Bool.false 0 0 0 0 z00 z01 z02) 1)))) (k_ 0 0 0 Bool.false [] [] []) (k_ (z0d x1 x2 x3 q03 q04 q05 q00 q01 q02 Bool.false 0 0 0 0 z00 z01 z02) (z0c x1 x2 x3 q03 q04 q05 q00 q01 q02 Bool.false 0 0 0 0 z00 z01 z02) (z0b x1 x2 x3 q03 q04 q05 q00 q01 q02 Bool.false 0 0 0 0 z00 z01 z02) Bool.true (z0k x1 x2 x3 q03 q04 q05 q00 q01 q02 Bool.false 0 0 0 0 z00 z01 z02) (z0j x1 x2 x3 q03 q04 q05 q00 q01 q02 Bool.false 0 0 0 0 z00 z01 z02) (z0i x1 x2 x3 q03 q04 q05 q00 q01 q02 Bool.false 0 0 0 0 z00 z01 z02)))))))) (br (bnot Bool.false) (k_ 0 0 0 Bool.false [] [] []) (grd z98 (grd (z5n x1 x2 x3 q03 q04 q05 q00 q01 q02 Bool.false 0 0 0 0 z00 z01 z02) (br (bnot (z4a x1 x2 x3 q03 q04 q05 q00 q01 q02 Bool.false 0 0 0 0 z00 z01 z02)) (grd (okA2 (z0d x1 x2 x3 q03 q04 q05 q00 q01 q02 Bool.false 0 0 0 0 z00 z01 z02) 1 4 (nF (pF [x1] 0 (muN 1 1))) (nF (z0k x1 x2 x3 q03 q04 q05 q00 q01 q02 Bool.false 0 0 0 0 z00 z01 z02)) 1) (grd (okA2 (z0c x1 x2 x3 q03 q04 q05 q00 q01 q02 Bool.false 0 0 0 0 z00 z01 z02) 1 4 (nF (pF [x2] 0 (muN 1 1))) (nF (z0j x1 x2 x3 q03 q04 q05 q00 q01 q02 Bool.false 0 0 0 0 z00 z01 z02)) 1) (grd (okA2 (z0b x1 x2 x3 q03 q04 q05 q00 q01 q02 Bool.false 0 0 0 0 z00 z01 z02) 1 4 (nF (pF [x3] 0 (muN 1 1))) (nF (z0i x1 x2 x3 q03 q04 q05 q00 q01 q02 Bool.false 0 0 0 0 z00 z01 z02)) 1) (grd (z5c (adN (z0d x1 x2 x3 q03 q04 q05 q00 q01 q02 Bool.false 0 0 0 0 z00 z01 z02) 1) (pF (aF (z0k x1 x2 x3 q03 q04 q05 q00 q01 q02 Bool.false 0 0 0 0 z00 z01 z02) (pF [x1] 0 (muN 1 1))) 0 (muN (adN (z0d x1 x2 x3 q03 q04 q05 q00 q01 q02 Bool.false 0 0 0 0 z00 z01 z02) 1) 1)) (adN (z0c x1 x2 x3 q03 q04 q05 q00 q01 q02 Bool.false 0 0 0 0 z00 z01 z02) 1) (pF (aF (z0j x1 x2 x3 q03 q04 q05 q00 q01 q02 Bool.false 0 0 0 0 z00 z01 z02) (pF [x2] 0 (muN 1 1))) 0 (muN (adN (z0c x1 x2 x3 q03 q04 q05 q00 q01 q02 Bool.false 0 0 0 0 z00 z01 z02) 1) 1)) (adN (z0b x1 x2 x3 q03 q04 q05 q00 q01 q02 Bool.false 0 0 0 0 z00 z01 z02) 1) (pF (aF (z0i x1 x2 x3 q03 q04 q05 q00 q01 q02 Bool.false 0 0 0 0 z00 z01 z02) (pF [x3] 0 (muN 1 1))) 0 (muN (adN (z0b x1 x2 x3 q03 q04 q05 q00 q01 q02 Bool.false 0 0 0 0 z00 z01 z02) 1) 1))) (br (bnot (z4r (adN (z0d x1 x2 x3 q03 q04 q05 q00 q01 q02 Bool.false 0 0 0 0 z00 z01 z02) 1) (pF (aF (z0k x1 x2 x3 q03 q04 q05 q00 q01 q02 Bool.false 0 0 0 0 z00 z01 z02) (pF [x1] 0 (muN 1 1))) 0 (muN (adN (z0d x1 x2 x3 q03 q04 q05 q00 q01 q02 Bool.false 0 0 0 0 z00 z01 z02) 1) 1)) (adN (z0c x1 x2 x3 q03 q04 q05 q00 q01 q02 Bool.false 0 0 0 0 z00 z01 z02) 1) (pF (aF (z0j x1 x2 x3 q03 q04 q05 q00 q01 q02 Bool.false 0 0 0 0 z00 z01 z02) (pF [x2] 0 (muN 1 1))) 0 (muN (adN (z0c x1 x2 x3 q03 q04 q05 q00 q01 q02 Bool.false 0 0 0 0 z00 z01 z02) 1) 1)) (adN (z0b x1 x2 x3 q03 q04 q05 q00 q01 q02 Bool.false 0 0 0 0 z00 z01 z02) 1) (pF (aF (z0i x1 x2 x3 q03 q04 q05 q00 q01 q02 Bool.false 0 0 0 0 z00 z01 z02) (pF [x3] 0 (muN 1 1))) 0 (muN (adN (z0b x1 x2 x3 q03 q04 q05 q00 q01 q02 Bool.false 0 0 0 0 z00 z01 z02) 1) 1)))) (k_ 0 0 0 Bool.false [] [] []) (k_ (adN (z0d x1 x2 x3 q03 q04 q05 q00 q01 q02 Bool.false 0 0 0 0 z00 z01 z02) 1) (adN (z0c x1 x2 x3 q03 q04 q05 q00 q01 q02 Bool.false 0 0 0 0 z00 z01 z02) 1) (adN (z0b x1 x2 x3 q03 q04 q05 q00 q01 q02 Bool.false 0 0 0 0 z00 z01 z02) 1) Bool.true (aF (z0k x1 x2 x3 q03 q04 q05 q00 q01 q02 Bool.false 0 0 0 0 z00 z01 z02) (pF [x1] 0 (muN 1 1))) (aF (z0j x1 x2 x3 q03 q04 q05 q00 q01 q02 Bool.false 0 0 0 0 z00 z01 z02) (pF [x2] 0 (muN 1 1))) (aF (z0i x1 x2 x3 q03 q04 q05 q00 q01 q02 Bool.false 0 0 0 0 z00 z01 z02) (pF [x3] 0 (muN 1 1))))))))) (grd (z5c (z0d x1 x2 x3 q03 q04 q05 q00 q01 q02 Bool.false 0 0 0 0 z00 z01 z02) (pF (z0k x1 x2 x3 q03 q04 q05 q00 q01 q02 Bool.false 0 0 0 0 z00 z01 z02) 0 (muN (z0d x1 x2 x3 q03 q04 q05 q00 q01 q02 Bool.false 0 0 0 0 z00 z01 z02) 1)) (z0c x1 x2 x3 q03 q04 q05 q00 q01 q02 Bool.false 0 0 0 0 z00 z01 z02) (pF (z0j x1 x2 x3 q03 q04 q05 q00 q01 q02 Bool.false 0 0 0 0 z00 z01 z02) 0 (muN (z0c x1 x2 x3 q03 q04 q05 q00 q01 q02 Bool.false 0 0 0 0 z00 z01 z02) 1)) (z0b x1 x2 x3 q03 q04 q05 q00 q01 q02 Bool.false 0 0 0 0 z00 z01 z02) (pF (z0i x1 x2 x3 q03 q04 q05 q00 q01 q02 Bool.false 0 0 0 0 z00 z01 z02) 0 (muN (z0b x1 x2 x3 q03 q04 q05 q00 q01 q02 Bool.false 0 0 0 0 z00 z01 z02) 1))) (br (bnot (z4r (z0d x1 x2 x3 q03 q04 q05 q00 q01 q02 Bool.false 0 0 0 0 z00 z01 z02) (pF (z0k x1 x2 x3 q03 q04 q05 q00 q01 q02 Bool.false 0 0 0 0 z00 z01 z02) 0 (muN (z0d x1 x2 x3 q03 q04 q05 q00 q01 q02 Bool.false 0 0 0 0 z00 z01 z02) 1)) (z0c x1 x2 x3 q03 q04 q05 q00 q01 q02 Bool.false 0 0 0 0 z00 z01 z02) (pF (z0j x1 x2 x3 q03 q04 q05 q00 q01 q02 Bool.false 0 0 0 0 z00 z01 z02) 0 (muN (z0c x1 x2 x3 q03 q04 q05 q00 q01 q02 Bool.false 0 0 0 0 z00 z01 z02) 1)) (z0b x1 x2 x3 q03 q04 q05 q00 q01 q02 Bool.false 0 0 0 0 z00 z01 z02) (pF (z0i x1 x2 x3 q03 q04 q05 q00 q01 q02 Bool.false 0 0 0 0 z00 z01 z02) 0 (muN (z0b x1 x2 x3 q03 q04 q05 q00 q01 q02 Bool.false 0 0 0 0 z00 z01 z02) 1)))) (k_ 0 0 0 Bool.false [] [] []) (k_ (z0d x1 x2 x3 q03 q04 q05 q00 q01 q02 Bool.false 0 0 0 0 z00 z01 z02) (z0c x1 x2 x3 q03 q04 q05 q00 q01 q02 Bool.false 0 0 0 0 z00 z01 z02) (z0b x1 x2 x3 q03 q04 q05 q00 q01 q02 Bool.false 0 0 0 0 z00 z01 z02) Bool.true (z0k x1 x2 x3 q03 q04 q05 q00 q01 q02 Bool.false 0 0 0 0 z00 z01 z02) (z0j x1 x2 x3 q03 q04 q05 q00 q01 q02 Bool.false 0 0 0 0 z00 z01 z02) (z0i x1 x2 x3 q03 q04 q05 q00 q01 q02 Bool.false 0 0 0 0 z00 z01 z02)))))))))))
noncomputable def z1h (q00 : Nat) (q03 : List Nat) (q01 : Nat) (q04 : List Nat) (q02 : Nat) (q05 : List Nat) (x1 : Nat) (x2 : Nat) (x3 : Nat) : Option (Nat × Nat × Nat × Bool × (List Nat) × (List Nat) × (List Nat)) := z57 q00 q03 q01 q04 q02 q05 x1 x2 x3 (fun c0_ c1_ c2_ c3_ c4_ c5_ c6_ => some (c0_, c1_, c2_, c3_, c4_, c5_, c6_))
theorem zfd (q00 : Nat) (q03 : List Nat) (q01 : Nat) (q04 : List Nat) (q02 : Nat) (q05 : List Nat) (x1 : Nat) (x2 : Nat) (x3 : Nat) {R R' : Type} (o : Option R → Option R') (h0 : o none = none) (k_ : Nat → Nat → Nat → Bool → (List Nat) → (List Nat) → (List Nat) → Option R) : z57 q00 q03 q01 q04 q02 q05 x1 x2 x3 (fun c0_ c1_ c2_ c3_ c4_ c5_ c6_ => o (k_ c0_ c1_ c2_ c3_ c4_ c5_ c6_)) = o (z57 q00 q03 q01 q04 q02 q05 x1 x2 x3 k_) := by
  unfold z57
  repeat (first | apply grd_out h0 | apply br_out | rfl | exact h0.symm)
noncomputable def zak (q00 : Nat) (q03 : List Nat) (q01 : Nat) (q04 : List Nat) (q02 : Nat) (q05 : List Nat) (x1 : Nat) (x2 : Nat) (x3 : Nat) : Bool := (z1h q00 q03 q01 q04 q02 q05 x1 x2 x3).isSome
noncomputable def z9l (q00 : Nat) (q03 : List Nat) (q01 : Nat) (q04 : List Nat) (q02 : Nat) (q05 : List Nat) (x1 : Nat) (x2 : Nat) (x3 : Nat) : Nat := ((z1h q00 q03 q01 q04 q02 q05 x1 x2 x3).getD default).1
noncomputable def z9s (q00 : Nat) (q03 : List Nat) (q01 : Nat) (q04 : List Nat) (q02 : Nat) (q05 : List Nat) (x1 : Nat) (x2 : Nat) (x3 : Nat) : Nat := ((z1h q00 q03 q01 q04 q02 q05 x1 x2 x3).getD default).2.1
noncomputable def z9q (q00 : Nat) (q03 : List Nat) (q01 : Nat) (q04 : List Nat) (q02 : Nat) (q05 : List Nat) (x1 : Nat) (x2 : Nat) (x3 : Nat) : Nat := ((z1h q00 q03 q01 q04 q02 q05 x1 x2 x3).getD default).2.2.1
noncomputable def z9r (q00 : Nat) (q03 : List Nat) (q01 : Nat) (q04 : List Nat) (q02 : Nat) (q05 : List Nat) (x1 : Nat) (x2 : Nat) (x3 : Nat) : Bool := ((z1h q00 q03 q01 q04 q02 q05 x1 x2 x3).getD default).2.2.2.1
noncomputable def z9n (q00 : Nat) (q03 : List Nat) (q01 : Nat) (q04 : List Nat) (q02 : Nat) (q05 : List Nat) (x1 : Nat) (x2 : Nat) (x3 : Nat) : List Nat := ((z1h q00 q03 q01 q04 q02 q05 x1 x2 x3).getD default).2.2.2.2.1
noncomputable def z9v (q00 : Nat) (q03 : List Nat) (q01 : Nat) (q04 : List Nat) (q02 : Nat) (q05 : List Nat) (x1 : Nat) (x2 : Nat) (x3 : Nat) : List Nat := ((z1h q00 q03 q01 q04 q02 q05 x1 x2 x3).getD default).2.2.2.2.2.1
noncomputable def z9t (q00 : Nat) (q03 : List Nat) (q01 : Nat) (q04 : List Nat) (q02 : Nat) (q05 : List Nat) (x1 : Nat) (x2 : Nat) (x3 : Nat) : List Nat := ((z1h q00 q03 q01 q04 q02 q05 x1 x2 x3).getD default).2.2.2.2.2.2
theorem zgk {q00 : Nat} {q03 : List Nat} {q01 : Nat} {q04 : List Nat} {q02 : Nat} {q05 : List Nat} {x1 : Nat} {x2 : Nat} {x3 : Nat} {r : Nat × Nat × Nat × Bool × (List Nat) × (List Nat) × (List Nat)} (h : z1h q00 q03 q01 q04 q02 q05 x1 x2 x3 = some r) : zak q00 q03 q01 q04 q02 q05 x1 x2 x3 = true ∧ z9l q00 q03 q01 q04 q02 q05 x1 x2 x3 = r.1 ∧ z9s q00 q03 q01 q04 q02 q05 x1 x2 x3 = r.2.1 ∧ z9q q00 q03 q01 q04 q02 q05 x1 x2 x3 = r.2.2.1 ∧ z9r q00 q03 q01 q04 q02 q05 x1 x2 x3 = r.2.2.2.1 ∧ z9n q00 q03 q01 q04 q02 q05 x1 x2 x3 = r.2.2.2.2.1 ∧ z9v q00 q03 q01 q04 q02 q05 x1 x2 x3 = r.2.2.2.2.2.1 ∧ z9t q00 q03 q01 q04 q02 q05 x1 x2 x3 = r.2.2.2.2.2.2 := by
  unfold zak z9l z9s z9q z9r z9n z9v z9t
  rw [h]
  exact ⟨rfl, rfl, rfl, rfl, rfl, rfl, rfl, rfl⟩
noncomputable def z1l {R : Type} (q17 : Nat) (t43 : Int) (b0 : List Nat) (q06 : Nat) (t44 : Int) (kn_ : Int → Option R) (k0_ : Unit → Option R) (k1_ : Int → Bool → Option R) : Option R := (br (ltI t44 t43) (grd (okIx t44 q17) (grd (z9o (gF b0 (ixO 0 t44 1)) 3204448256 1056964608) (br (bnot (z8m (gF b0 (ixO 0 t44 1)) 3204448256 1056964608)) (k0_ ()) (br (ltI 0 t44) (grd (okIx (subI .i64 t44 1) q06) (br (fcmp .geq .f32 (gF b0 (ixO 0 (subI .i64 t44 1) 1)) (gF b0 (ixO 0 t44 1))) (k0_ ()) (kn_ (addI .i64 t44 1)))) (kn_ (addI .i64 t44 1)))))) (k1_ t44 (ltI t44 t43)))
theorem zbw (q17 : Nat) (t43 : Int) (b0 : List Nat) (q06 : Nat) (t44 : Int) {R R' : Type} (o : Option R → Option R') (h0 : o none = none) (kn_ : Int → Option R) (k0_ : Unit → Option R) (k1_ : Int → Bool → Option R) : z1l q17 t43 b0 q06 t44 (fun t44' => o (kn_ t44')) (fun _ => o (k0_ ())) (fun c0_ c1_ => o (k1_ c0_ c1_)) = o (z1l q17 t43 b0 q06 t44 kn_ k0_ k1_) := by
  unfold z1l
  repeat (first | apply grd_out h0 | apply br_out | rfl | exact h0.symm)
noncomputable def z0t (q17 : Nat) (t43 : Int) (b0 : List Nat) (q06 : Nat) : Nat → Int → Option ((Unit) ⊕ (Int × Bool))
  | 0, _ => none
  | n + 1, t44 => z1l q17 t43 b0 q06  t44  (fun t44' => z0t q17 t43 b0 q06 n t44') (fun _ => some (Sum.inl ())) (fun c0_ c1_ => some (Sum.inr (c0_, c1_)))
theorem z8f (q17 : Nat) (t43 : Int) (b0 : List Nat) (q06 : Nat) (n : Nat) (t44 : Int) : z0t q17 t43 b0 q06 (n + 1) t44 = z1l q17 t43 b0 q06  t44  (fun t44' => z0t q17 t43 b0 q06 n t44') (fun _ => some (Sum.inl ())) (fun c0_ c1_ => some (Sum.inr (c0_, c1_))) := rfl
noncomputable def z2h (q17 : Nat) (t43 : Int) (b0 : List Nat) (q06 : Nat) (t44 : Int) : Bool := (z0t q17 t43 b0 q06 big t44).isSome
noncomputable def z2d (q17 : Nat) (t43 : Int) (b0 : List Nat) (q06 : Nat) (t44 : Int) : Bool := oL (z0t q17 t43 b0 q06 big t44)
noncomputable def z5q (q17 : Nat) (t43 : Int) (b0 : List Nat) (q06 : Nat) (t44 : Int) : Int := ((tR (z0t q17 t43 b0 q06 big t44)).getD default).1
noncomputable def z5t (q17 : Nat) (t43 : Int) (b0 : List Nat) (q06 : Nat) (t44 : Int) : Bool := ((tR (z0t q17 t43 b0 q06 big t44)).getD default).2
theorem zcq {q17 : Nat} {t43 : Int} {b0 : List Nat} {q06 : Nat} {t44 : Int} {m : Nat} {r : Unit} (hm : m = big) (h : z0t q17 t43 b0 q06 m t44 = some (Sum.inl r)) : z2h q17 t43 b0 q06 t44 = true ∧ z2d q17 t43 b0 q06 t44 = true := by
  subst hm
  unfold z2h z2d
  rw [h]
  exact ⟨rfl, rfl⟩
theorem zcm {q17 : Nat} {t43 : Int} {b0 : List Nat} {q06 : Nat} {t44 : Int} {m : Nat} {r : Int × Bool} (hm : m = big) (h : z0t q17 t43 b0 q06 m t44 = some (Sum.inr r)) : z2h q17 t43 b0 q06 t44 = true ∧ z2d q17 t43 b0 q06 t44 = false ∧ z5q q17 t43 b0 q06 t44 = r.1 ∧ z5t q17 t43 b0 q06 t44 = r.2 := by
  subst hm
  unfold z2h z2d z5q z5t
  rw [h]
  exact ⟨rfl, rfl, rfl, rfl⟩
noncomputable def z3c {R : Type} (q00 : Nat) (q03 : List Nat) (q01 : Nat) (q04 : List Nat) (q02 : Nat) (q05 : List Nat) (k_ : Bool → Option R) : Option R := (br (ltI (Int.ofNat q00) 2) (k_ Bool.false) (br (ltI 24 (Int.ofNat q00)) (k_ Bool.false) (br (neI (Int.ofNat q01) (Int.ofNat q00)) (k_ Bool.false) (br (neI (Int.ofNat q02) (Int.ofNat q00)) (k_ Bool.false) (grd (z97 q01 (pF q04 0 (muN q01 1))) (br (bnot (z7k q01 (pF q04 0 (muN q01 1)))) (k_ Bool.false) (grd (za2 q02 (pF q05 0 (muN q02 1))) (br (bnot (z8u q02 (pF q05 0 (muN q02 1)))) (k_ Bool.false) (grd (z2h q00 (Int.ofNat q00) q03 q00 0) (br (z2d q00 (Int.ofNat q00) q03 q00 0) (k_ Bool.false) (k_ Bool.true)))))))))))
noncomputable def z3e (q00 : Nat) (q03 : List Nat) (q01 : Nat) (q04 : List Nat) (q02 : Nat) (q05 : List Nat) : Option (Bool) := z3c q00 q03 q01 q04 q02 q05 (fun c0_ => some c0_)
theorem zd3 (q00 : Nat) (q03 : List Nat) (q01 : Nat) (q04 : List Nat) (q02 : Nat) (q05 : List Nat) {R R' : Type} (o : Option R → Option R') (h0 : o none = none) (k_ : Bool → Option R) : z3c q00 q03 q01 q04 q02 q05 (fun c0_ => o (k_ c0_)) = o (z3c q00 q03 q01 q04 q02 q05 k_) := by
  unfold z3c
  repeat (first | apply grd_out h0 | apply br_out | rfl | exact h0.symm)
noncomputable def z4y (q00 : Nat) (q03 : List Nat) (q01 : Nat) (q04 : List Nat) (q02 : Nat) (q05 : List Nat) : Bool := (z3e q00 q03 q01 q04 q02 q05).isSome
noncomputable def z46 (q00 : Nat) (q03 : List Nat) (q01 : Nat) (q04 : List Nat) (q02 : Nat) (q05 : List Nat) : Bool := ((z3e q00 q03 q01 q04 q02 q05).getD default)
theorem z96 {q00 : Nat} {q03 : List Nat} {q01 : Nat} {q04 : List Nat} {q02 : Nat} {q05 : List Nat} {r : Bool} (h : z3e q00 q03 q01 q04 q02 q05 = some r) : z4y q00 q03 q01 q04 q02 q05 = true ∧ z46 q00 q03 q01 q04 q02 q05 = r := by
  unfold z4y z46
  rw [h]
  exact ⟨rfl, rfl⟩
noncomputable def z2l {R : Type} (t1 : Nat) (b0 : List Nat) (q06 : Nat) (t10 : Int) (kn_ : Int → Option R) (k0_ : Int → Bool → Option R) : Option R := (br (ltI t10 (Int.ofNat q06)) (grd (okIx t10 q06) (br (fcmp .lss .f32 (gF b0 (ixO 0 t10 1)) t1) (kn_ (addI .i64 t10 1)) (k0_ t10 (fcmp .lss .f32 (gF b0 (ixO 0 t10 1)) t1)))) (k0_ t10 Bool.false))
theorem ze1 (t1 : Nat) (b0 : List Nat) (q06 : Nat) (t10 : Int) {R R' : Type} (o : Option R → Option R') (h0 : o none = none) (kn_ : Int → Option R) (k0_ : Int → Bool → Option R) : z2l t1 b0 q06 t10 (fun t10' => o (kn_ t10')) (fun c0_ c1_ => o (k0_ c0_ c1_)) = o (z2l t1 b0 q06 t10 kn_ k0_) := by
  unfold z2l
  repeat (first | apply grd_out h0 | apply br_out | rfl | exact h0.symm)
noncomputable def z1i (t1 : Nat) (b0 : List Nat) (q06 : Nat) : Nat → Int → Option ((Int × Bool))
  | 0, _ => none
  | n + 1, t10 => z2l t1 b0 q06  t10  (fun t10' => z1i t1 b0 q06 n t10') (fun c0_ c1_ => some (c0_, c1_))
theorem zat (t1 : Nat) (b0 : List Nat) (q06 : Nat) (n : Nat) (t10 : Int) : z1i t1 b0 q06 (n + 1) t10 = z2l t1 b0 q06  t10  (fun t10' => z1i t1 b0 q06 n t10') (fun c0_ c1_ => some (c0_, c1_)) := rfl
noncomputable def z7j (t1 : Nat) (b0 : List Nat) (q06 : Nat) (t10 : Int) : Bool := (z1i t1 b0 q06 big t10).isSome
noncomputable def z0s (t1 : Nat) (b0 : List Nat) (q06 : Nat) (t10 : Int) : Int := ((z1i t1 b0 q06 big t10).getD default).1
noncomputable def z8k (t1 : Nat) (b0 : List Nat) (q06 : Nat) (t10 : Int) : Bool := ((z1i t1 b0 q06 big t10).getD default).2
theorem zes {t1 : Nat} {b0 : List Nat} {q06 : Nat} {t10 : Int} {m : Nat} {r : Int × Bool} (hm : m = big) (h : z1i t1 b0 q06 m t10 = some r) : z7j t1 b0 q06 t10 = true ∧ z0s t1 b0 q06 t10 = r.1 ∧ z8k t1 b0 q06 t10 = r.2 := by
  subst hm
  unfold z7j z0s z8k
  rw [h]
  exact ⟨rfl, rfl, rfl⟩
noncomputable def z40 {R : Type} (q00 : Nat) (q03 : List Nat) (q01 : Nat) (q04 : List Nat) (q02 : Nat) (q05 : List Nat) (x1 : Nat) (x2 : Nat) (x3 : Nat) (k_ : Nat → Nat → Nat → Bool → (List Nat) → (List Nat) → (List Nat) → Option R) : Option R := (grd (z4y q00 (pF q03 0 (muN q00 1)) q01 (pF q04 0 (muN q01 1)) q02 (pF q05 0 (muN q02 1))) (br (bnot (z46 q00 (pF q03 0 (muN q00 1)) q01 (pF q04 0 (muN q01 1)) q02 (pF q05 0 (muN q02 1)))) (k_ 0 0 0 Bool.false [] [] []) (grd (z3j q00 (pF q03 0 (muN q00 1)) x1) (br (z39 q00 (pF q03 0 (muN q00 1)) x1) (k_ 0 0 0 Bool.false [] [] []) (grd (z7j x1 q03 q00 0) (grd (z6o q00 (pF q03 0 (muN q00 1)) q01 (pF q04 0 (muN q01 1)) q02 (pF q05 0 (muN q02 1))) (grd (okIn (z0s x1 q03 q00 0) (z27 q00 (pF q03 0 (muN q00 1)) q01 (pF q04 0 (muN q01 1)) q02 (pF q05 0 (muN q02 1))) (nF (z2w q00 (pF q03 0 (muN q00 1)) q01 (pF q04 0 (muN q01 1)) q02 (pF q05 0 (muN q02 1))))) (grd (okIn (z0s x1 q03 q00 0) (z2a q00 (pF q03 0 (muN q00 1)) q01 (pF q04 0 (muN q01 1)) q02 (pF q05 0 (muN q02 1))) (nF (z2y q00 (pF q03 0 (muN q00 1)) q01 (pF q04 0 (muN q01 1)) q02 (pF q05 0 (muN q02 1))))) (grd (okIn (z0s x1 q03 q00 0) (z29 q00 (pF q03 0 (muN q00 1)) q01 (pF q04 0 (muN q01 1)) q02 (pF q05 0 (muN q02 1))) (nF (z2v q00 (pF q03 0 (muN q00 1)) q01 (pF q04 0 (muN q01 1)) q02 (pF q05 0 (muN q02 1))))) (grd (z4y (adN (z27 q00 (pF q03 0 (muN q00 1)) q01 (pF q04 0 (muN q01 1)) q02 (pF q05 0 (muN q02 1))) 1) (pF (inF (z2w q00 (pF q03 0 (muN q00 1)) q01 (pF q04 0 (muN q01 1)) q02 (pF q05 0 (muN q02 1))) (z0s x1 q03 q00 0) (gF [x1] 0)) 0 (muN (adN (z27 q00 (pF q03 0 (muN q00 1)) q01 (pF q04 0 (muN q01 1)) q02 (pF q05 0 (muN q02 1))) 1) 1)) (adN (z2a q00 (pF q03 0 (muN q00 1)) q01 (pF q04 0 (muN q01 1)) q02 (pF q05 0 (muN q02 1))) 1) (pF (inF (z2y q00 (pF q03 0 (muN q00 1)) q01 (pF q04 0 (muN q01 1)) q02 (pF q05 0 (muN q02 1))) (z0s x1 q03 q00 0) (gF [x2] 0)) 0 (muN (adN (z2a q00 (pF q03 0 (muN q00 1)) q01 (pF q04 0 (muN q01 1)) q02 (pF q05 0 (muN q02 1))) 1) 1)) (adN (z29 q00 (pF q03 0 (muN q00 1)) q01 (pF q04 0 (muN q01 1)) q02 (pF q05 0 (muN q02 1))) 1) (pF (inF (z2v q00 (pF q03 0 (muN q00 1)) q01 (pF q04 0 (muN q01 1)) q02 (pF q05 0 (muN q02 1))) (z0s x1 q03 q00 0) (gF [x3] 0)) 0 (muN (adN (z29 q00 (pF q03 0 (muN q00 1)) q01 (pF q04 0 (muN q01 1)) q02 (pF q05 0 (muN q02 1))) 1) 1))) (br (bnot (z46 (adN (z27 q00 (pF q03 0 (muN q00 1)) q01 (pF q04 0 (muN q01 1)) q02 (pF q05 0 (muN q02 1))) 1) (pF (inF (z2w q00 (pF q03 0 (muN q00 1)) q01 (pF q04 0 (muN q01 1)) q02 (pF q05 0 (muN q02 1))) (z0s x1 q03 q00 0) (gF [x1] 0)) 0 (muN (adN (z27 q00 (pF q03 0 (muN q00 1)) q01 (pF q04 0 (muN q01 1)) q02 (pF q05 0 (muN q02 1))) 1) 1)) (adN (z2a q00 (pF q03 0 (muN q00 1)) q01 (pF q04 0 (muN q01 1)) q02 (pF q05 0 (muN q02 1))) 1) (pF (inF (z2y q00 (pF q03 0 (muN q00 1)) q01 (pF q04 0 (muN q01 1)) q02 (pF q05 0 (muN q02 1))) (z0s x1 q03 q00 0) (gF [x2] 0)) 0 (muN (adN (z2a q00 (pF q03 0 (muN q00 1)) q01 (pF q04 0 (muN q01 1)) q02 (pF q05 0 (muN q02 1))) 1) 1)) (adN (z29 q00 (pF q03 0 (muN q00 1)) q01 (pF q04 0 (muN q01 1)) q02 (pF q05 0 (muN q02 1))) 1) (pF (inF (z2v q00 (pF q03 0 (muN q00 1)) q01 (pF q04 0 (muN q01 1)) q02 (pF q05 0 (muN q02 1))) (z0s x1 q03 q00 0) (gF [x3] 0)) 0 (muN (adN (z29 q00 (pF q03 0 (muN q00 1)) q01 (pF q04 0 (muN q01 1)) q02 (pF q05 0 (muN q02 1))) 1) 1)))) (k_ 0 0 0 Bool.false [] [] []) (k_ (adN (z27 q00 (pF q03 0 (muN q00 1)) q01 (pF q04 0 (muN q01 1)) q02 (pF q05 0 (muN q02 1))) 1) (adN (z2a q00 (pF q03 0 (muN q00 1)) q01 (pF q04 0 (muN q01 1)) q02 (pF q05 0 (muN q02 1))) 1) (adN (z29 q00 (pF q03 0 (muN q00 1)) q01 (pF q04 0 (muN q01 1)) q02 (pF q05 0 (muN q02 1))) 1) Bool.true (inF (z2w q00 (pF q03 0 (muN q00 1)) q01 (pF q04 0 (muN q01 1)) q02 (pF q05 0 (muN q02 1))) (z0s x1 q03 q00 0) (gF [x1] 0)) (inF (z2y q00 (pF q03 0 (muN q00 1)) q01 (pF q04 0 (muN q01 1)) q02 (pF q05 0 (muN q02 1))) (z0s x1 q03 q00 0) (gF [x2] 0)) (inF (z2v q00 (pF q03 0 (muN q00 1)) q01 (pF q04 0 (muN q01 1)) q02 (pF q05 0 (muN q02 1))) (z0s x1 q03 q00 0) (gF [x3] 0))))))))))))))
noncomputable def z1e (q00 : Nat) (q03 : List Nat) (q01 : Nat) (q04 : List Nat) (q02 : Nat) (q05 : List Nat) (x1 : Nat) (x2 : Nat) (x3 : Nat) : Option (Nat × Nat × Nat × Bool × (List Nat) × (List Nat) × (List Nat)) := z40 q00 q03 q01 q04 q02 q05 x1 x2 x3 (fun c0_ c1_ c2_ c3_ c4_ c5_ c6_ => some (c0_, c1_, c2_, c3_, c4_, c5_, c6_))
theorem zfe (q00 : Nat) (q03 : List Nat) (q01 : Nat) (q04 : List Nat) (q02 : Nat) (q05 : List Nat) (x1 : Nat) (x2 : Nat) (x3 : Nat) {R R' : Type} (o : Option R → Option R') (h0 : o none = none) (k_ : Nat → Nat → Nat → Bool → (List Nat) → (List Nat) → (List Nat) → Option R) : z40 q00 q03 q01 q04 q02 q05 x1 x2 x3 (fun c0_ c1_ c2_ c3_ c4_ c5_ c6_ => o (k_ c0_ c1_ c2_ c3_ c4_ c5_ c6_)) = o (z40 q00 q03 q01 q04 q02 q05 x1 x2 x3 k_) := by
  unfold z40
  repeat (first | apply grd_out h0 | apply br_out | rfl | exact h0.symm)
noncomputable def zai (q00 : Nat) (q03 : List Nat) (q01 : Nat) (q04 : List Nat) (q02 : Nat) (q05 : List Nat) (x1 : Nat) (x2 : Nat) (x3 : Nat) : Bool := (z1e q00 q03 q01 q04 q02 q05 x1 x2 x3).isSome
noncomputable def z9w (q00 : Nat) (q03 : List Nat) (q01 : Nat) (q04 : List Nat) (q02 : Nat) (q05 : List Nat) (x1 : Nat) (x2 : Nat) (x3 : Nat) : Nat := ((z1e q00 q03 q01 q04 q02 q05 x1 x2 x3).getD default).1
noncomputable def z9u (q00 : Nat) (q03 : List Nat) (q01 : Nat) (q04 : List Nat) (q02 : Nat) (q05 : List Nat) (x1 : Nat) (x2 : Nat) (x3 : Nat) : Nat := ((z1e q00 q03 q01 q04 q02 q05 x1 x2 x3).getD default).2.1
noncomputable def z9m (q00 : Nat) (q03 : List Nat) (q01 : Nat) (q04 : List Nat) (q02 : Nat) (q05 : List Nat) (x1 : Nat) (x2 : Nat) (x3 : Nat) : Nat := ((z1e q00 q03 q01 q04 q02 q05 x1 x2 x3).getD default).2.2.1
noncomputable def z9p (q00 : Nat) (q03 : List Nat) (q01 : Nat) (q04 : List Nat) (q02 : Nat) (q05 : List Nat) (x1 : Nat) (x2 : Nat) (x3 : Nat) : Bool := ((z1e q00 q03 q01 q04 q02 q05 x1 x2 x3).getD default).2.2.2.1
noncomputable def za1 (q00 : Nat) (q03 : List Nat) (q01 : Nat) (q04 : List Nat) (q02 : Nat) (q05 : List Nat) (x1 : Nat) (x2 : Nat) (x3 : Nat) : List Nat := ((z1e q00 q03 q01 q04 q02 q05 x1 x2 x3).getD default).2.2.2.2.1
noncomputable def za3 (q00 : Nat) (q03 : List Nat) (q01 : Nat) (q04 : List Nat) (q02 : Nat) (q05 : List Nat) (x1 : Nat) (x2 : Nat) (x3 : Nat) : List Nat := ((z1e q00 q03 q01 q04 q02 q05 x1 x2 x3).getD default).2.2.2.2.2.1
noncomputable def z9x (q00 : Nat) (q03 : List Nat) (q01 : Nat) (q04 : List Nat) (q02 : Nat) (q05 : List Nat) (x1 : Nat) (x2 : Nat) (x3 : Nat) : List Nat := ((z1e q00 q03 q01 q04 q02 q05 x1 x2 x3).getD default).2.2.2.2.2.2
theorem zgn {q00 : Nat} {q03 : List Nat} {q01 : Nat} {q04 : List Nat} {q02 : Nat} {q05 : List Nat} {x1 : Nat} {x2 : Nat} {x3 : Nat} {r : Nat × Nat × Nat × Bool × (List Nat) × (List Nat) × (List Nat)} (h : z1e q00 q03 q01 q04 q02 q05 x1 x2 x3 = some r) : zai q00 q03 q01 q04 q02 q05 x1 x2 x3 = true ∧ z9w q00 q03 q01 q04 q02 q05 x1 x2 x3 = r.1 ∧ z9u q00 q03 q01 q04 q02 q05 x1 x2 x3 = r.2.1 ∧ z9m q00 q03 q01 q04 q02 q05 x1 x2 x3 = r.2.2.1 ∧ z9p q00 q03 q01 q04 q02 q05 x1 x2 x3 = r.2.2.2.1 ∧ za1 q00 q03 q01 q04 q02 q05 x1 x2 x3 = r.2.2.2.2.1 ∧ za3 q00 q03 q01 q04 q02 q05 x1 x2 x3 = r.2.2.2.2.2.1 ∧ z9x q00 q03 q01 q04 q02 q05 x1 x2 x3 = r.2.2.2.2.2.2 := by
  unfold zai z9w z9u z9m z9p za1 za3 z9x
  rw [h]
  exact ⟨rfl, rfl, rfl, rfl, rfl, rfl, rfl, rfl⟩
noncomputable def z0u {R : Type} (an : Nat) (k : Int) (i : Int) (b9 : List Nat) (kn_ : Int → Int → (List Nat) → Option R) (k0_ : Int → Int → Bool → (List Nat) → Option R) : Option R := (br (ltI i (Int.ofNat an)) (grd (okIx i an) (kn_ (addI .i64 k 1) (addI .i64 i 1) (sF b9 (ixO 0 i 1) (fOI .f32 k)))) (k0_ k i (ltI i (Int.ofNat an)) b9))
theorem z7v (an : Nat) (k : Int) (i : Int) (b9 : List Nat) {R R' : Type} (o : Option R → Option R') (h0 : o none = none) (kn_ : Int → Int → (List Nat) → Option R) (k0_ : Int → Int → Bool → (List Nat) → Option R) : z0u an k i b9 (fun k' i' b9' => o (kn_ k' i' b9')) (fun c0_ c1_ c2_ c3_ => o (k0_ c0_ c1_ c2_ c3_)) = o (z0u an k i b9 kn_ k0_) := by
  unfold z0u
  repeat (first | apply grd_out h0 | apply br_out | rfl | exact h0.symm)
noncomputable def z0a (an : Nat) : Nat → Int → Int → (List Nat) → Option ((Int × Int × Bool × (List Nat)))
  | 0, _, _, _ => none
  | n + 1, k, i, b9 => z0u an  k i b9  (fun k' i' b9' => z0a an n k' i' b9') (fun c0_ c1_ c2_ c3_ => some (c0_, c1_, c2_, c3_))
theorem z74 (an : Nat) (n : Nat) (k : Int) (i : Int) (b9 : List Nat) : z0a an (n + 1) k i b9 = z0u an  k i b9  (fun k' i' b9' => z0a an n k' i' b9') (fun c0_ c1_ c2_ c3_ => some (c0_, c1_, c2_, c3_)) := rfl
noncomputable def laws_FnExactAddKnot__markFloat32S_l2_p (an : Nat) (k : Int) (i : Int) (b9 : List Nat) : Bool := (z0a an big k i b9).isSome
noncomputable def laws_FnExactAddKnot__markFloat32S_l2_a0_0 (an : Nat) (k : Int) (i : Int) (b9 : List Nat) : Int := ((z0a an big k i b9).getD default).1
noncomputable def laws_FnExactAddKnot__markFloat32S_l2_a0_1 (an : Nat) (k : Int) (i : Int) (b9 : List Nat) : Int := ((z0a an big k i b9).getD default).2.1
noncomputable def laws_FnExactAddKnot__markFloat32S_l2_a0_2 (an : Nat) (k : Int) (i : Int) (b9 : List Nat) : Bool := ((z0a an big k i b9).getD default).2.2.1
noncomputable def laws_FnExactAddKnot__markFloat32S_l2_a0_3 (an : Nat) (k : Int) (i : Int) (b9 : List Nat) : List Nat := ((z0a an big k i b9).getD default).2.2.2
theorem laws_FnExactAddKnot__markFloat32S_l2_of0 {an : Nat} {k : Int} {i : Int} {b9 : List Nat} {m : Nat} {r : Int × Int × Bool × (List Nat)} (hm : m = big) (h : z0a an m k i b9 = some r) : laws_FnExactAddKnot__markFloat32S_l2_p an k i b9 = true ∧ laws_FnExactAddKnot__markFloat32S_l2_a0_0 an k i b9 = r.1 ∧ laws_FnExactAddKnot__markFloat32S_l2_a0_1 an k i b9 = r.2.1 ∧ laws_FnExactAddKnot__markFloat32S_l2_a0_2 an k i b9 = r.2.2.1 ∧ laws_FnExactAddKnot__markFloat32S_l2_a0_3 an k i b9 = r.2.2.2 := by
  subst hm
  unfold laws_FnExactAddKnot__markFloat32S_l2_p laws_FnExactAddKnot__markFloat32S_l2_a0_0 laws_FnExactAddKnot__markFloat32S_l2_a0_1 laws_FnExactAddKnot__markFloat32S_l2_a0_2 laws_FnExactAddKnot__markFloat32S_l2_a0_3
  rw [h]
  exact ⟨rfl, rfl, rfl, rfl, rfl⟩
noncomputable def z0q {R : Type} (an : Nat) (k : Int) (i : Int) (b10 : List Nat) (kn_ : Int → Int → (List Nat) → Option R) (k0_ : Int → Int → Bool → (List Nat) → Option R) : Option R := (br (ltI i (Int.ofNat an)) (grd (okIx i an) (kn_ (addI .i64 k 1) (addI .i64 i 1) (sF b10 (ixO 0 i 1) (fOI .f32 k)))) (k0_ k i (ltI i (Int.ofNat an)) b10))
theorem z72 (an : Nat) (k : Int) (i : Int) (b10 : List Nat) {R R' : Type} (o : Option R → Option R') (h0 : o none = none) (kn_ : Int → Int → (List Nat) → Option R) (k0_ : Int → Int → Bool → (List Nat) → Option R) : z0q an k i b10 (fun k' i' b10' => o (kn_ k' i' b10')) (fun c0_ c1_ c2_ c3_ => o (k0_ c0_ c1_ c2_ c3_)) = o (z0q an k i b10 kn_ k0_) := by
  unfold z0q
  repeat (first | apply grd_out h0 | apply br_out | rfl | exact h0.symm)
noncomputable def z09 (an : Nat) : Nat → Int → Int → (List Nat) → Option ((Int × Int × Bool × (List Nat)))
  | 0, _, _, _ => none
  | n + 1, k, i, b10 => z0q an  k i b10  (fun k' i' b10' => z09 an n k' i' b10') (fun c0_ c1_ c2_ c3_ => some (c0_, c1_, c2_, c3_))
theorem z6h (an : Nat) (n : Nat) (k : Int) (i : Int) (b10 : List Nat) : z09 an (n + 1) k i b10 = z0q an  k i b10  (fun k' i' b10' => z09 an n k' i' b10') (fun c0_ c1_ c2_ c3_ => some (c0_, c1_, c2_, c3_)) := rfl
noncomputable def laws_FnExactAddKnot__markFloat32S_l2_2_p (an : Nat) (k : Int) (i : Int) (b10 : List Nat) : Bool := (z09 an big k i b10).isSome
noncomputable def laws_FnExactAddKnot__markFloat32S_l2_2_a0_0 (an : Nat) (k : Int) (i : Int) (b10 : List Nat) : Int := ((z09 an big k i b10).getD default).1
noncomputable def laws_FnExactAddKnot__markFloat32S_l2_2_a0_1 (an : Nat) (k : Int) (i : Int) (b10 : List Nat) : Int := ((z09 an big k i b10).getD default).2.1
noncomputable def laws_FnExactAddKnot__markFloat32S_l2_2_a0_2 (an : Nat) (k : Int) (i : Int) (b10 : List Nat) : Bool := ((z09 an big k i b10).getD default).2.2.1
noncomputable def laws_FnExactAddKnot__markFloat32S_l2_2_a0_3 (an : Nat) (k : Int) (i : Int) (b10 : List Nat) : List Nat := ((z09 an big k i b10).getD default).2.2.2
theorem laws_FnExactAddKnot__markFloat32S_l2_2_of0 {an : Nat} {k : Int} {i : Int} {b10 : List Nat} {m : Nat} {r : Int × Int × Bool × (List Nat)} (hm : m = big) (h : z09 an m k i b10 = some r) : laws_FnExactAddKnot__markFloat32S_l2_2_p an k i b10 = true ∧ laws_FnExactAddKnot__markFloat32S_l2_2_a0_0 an k i b10 = r.1 ∧ laws_FnExactAddKnot__markFloat32S_l2_2_a0_1 an k i b10 = r.2.1 ∧ laws_FnExactAddKnot__markFloat32S_l2_2_a0_2 an k i b10 = r.2.2.1 ∧ laws_FnExactAddKnot__markFloat32S_l2_2_a0_3 an k i b10 = r.2.2.2 := by
  subst hm
  unfold laws_FnExactAddKnot__markFloat32S_l2_2_p laws_FnExactAddKnot__markFloat32S_l2_2_a0_0 laws_FnExactAddKnot__markFloat32S_l2_2_a0_1 laws_FnExactAddKnot__markFloat32S_l2_2_a0_2 laws_FnExactAddKnot__markFloat32S_l2_2_a0_3
  rw [h]
  exact ⟨rfl, rfl, rfl, rfl, rfl⟩
noncomputable def z0n {R : Type} (an : Nat) (k : Int) (i : Int) (b11 : List Nat) (kn_ : Int → Int → (List Nat) → Option R) (k0_ : Int → Int → Bool → (List Nat) → Option R) : Option R := (br (ltI i (Int.ofNat an)) (grd (okIx i an) (kn_ (addI .i64 k 1) (addI .i64 i 1) (sF b11 (ixO 0 i 1) (fOI .f32 k)))) (k0_ k i (ltI i (Int.ofNat an)) b11))
theorem z70 (an : Nat) (k : Int) (i : Int) (b11 : List Nat) {R R' : Type} (o : Option R → Option R') (h0 : o none = none) (kn_ : Int → Int → (List Nat) → Option R) (k0_ : Int → Int → Bool → (List Nat) → Option R) : z0n an k i b11 (fun k' i' b11' => o (kn_ k' i' b11')) (fun c0_ c1_ c2_ c3_ => o (k0_ c0_ c1_ c2_ c3_)) = o (z0n an k i b11 kn_ k0_) := by
  unfold z0n
  repeat (first | apply grd_out h0 | apply br_out | rfl | exact h0.symm)
noncomputable def z06 (an : Nat) : Nat → Int → Int → (List Nat) → Option ((Int × Int × Bool × (List Nat)))
  | 0, _, _, _ => none
  | n + 1, k, i, b11 => z0n an  k i b11  (fun k' i' b11' => z06 an n k' i' b11') (fun c0_ c1_ c2_ c3_ => some (c0_, c1_, c2_, c3_))
theorem z6g (an : Nat) (n : Nat) (k : Int) (i : Int) (b11 : List Nat) : z06 an (n + 1) k i b11 = z0n an  k i b11  (fun k' i' b11' => z06 an n k' i' b11') (fun c0_ c1_ c2_ c3_ => some (c0_, c1_, c2_, c3_)) := rfl
noncomputable def laws_FnExactAddKnot__markFloat32S_l2_3_p (an : Nat) (k : Int) (i : Int) (b11 : List Nat) : Bool := (z06 an big k i b11).isSome
noncomputable def laws_FnExactAddKnot__markFloat32S_l2_3_a0_0 (an : Nat) (k : Int) (i : Int) (b11 : List Nat) : Int := ((z06 an big k i b11).getD default).1
noncomputable def laws_FnExactAddKnot__markFloat32S_l2_3_a0_1 (an : Nat) (k : Int) (i : Int) (b11 : List Nat) : Int := ((z06 an big k i b11).getD default).2.1
noncomputable def laws_FnExactAddKnot__markFloat32S_l2_3_a0_2 (an : Nat) (k : Int) (i : Int) (b11 : List Nat) : Bool := ((z06 an big k i b11).getD default).2.2.1
noncomputable def laws_FnExactAddKnot__markFloat32S_l2_3_a0_3 (an : Nat) (k : Int) (i : Int) (b11 : List Nat) : List Nat := ((z06 an big k i b11).getD default).2.2.2
theorem laws_FnExactAddKnot__markFloat32S_l2_3_of0 {an : Nat} {k : Int} {i : Int} {b11 : List Nat} {m : Nat} {r : Int × Int × Bool × (List Nat)} (hm : m = big) (h : z06 an m k i b11 = some r) : laws_FnExactAddKnot__markFloat32S_l2_3_p an k i b11 = true ∧ laws_FnExactAddKnot__markFloat32S_l2_3_a0_0 an k i b11 = r.1 ∧ laws_FnExactAddKnot__markFloat32S_l2_3_a0_1 an k i b11 = r.2.1 ∧ laws_FnExactAddKnot__markFloat32S_l2_3_a0_2 an k i b11 = r.2.2.1 ∧ laws_FnExactAddKnot__markFloat32S_l2_3_a0_3 an k i b11 = r.2.2.2 := by
  subst hm
  unfold laws_FnExactAddKnot__markFloat32S_l2_3_p laws_FnExactAddKnot__markFloat32S_l2_3_a0_0 laws_FnExactAddKnot__markFloat32S_l2_3_a0_1 laws_FnExactAddKnot__markFloat32S_l2_3_a0_2 laws_FnExactAddKnot__markFloat32S_l2_3_a0_3
  rw [h]
  exact ⟨rfl, rfl, rfl, rfl, rfl⟩
noncomputable def z0r {R : Type} (an : Nat) (k : Int) (i : Int) (b9 : List Nat) (kn_ : Int → Int → (List Nat) → Option R) (k0_ : Int → Int → Bool → (List Nat) → Option R) : Option R := (br (ltI i (Int.ofNat an)) (grd (okIx i an) (kn_ (addI .i64 k 1) (addI .i64 i 1) (sF b9 (ixO 0 i 1) (fOI .f32 k)))) (k0_ k i (ltI i (Int.ofNat an)) b9))
theorem z6v (an : Nat) (k : Int) (i : Int) (b9 : List Nat) {R R' : Type} (o : Option R → Option R') (h0 : o none = none) (kn_ : Int → Int → (List Nat) → Option R) (k0_ : Int → Int → Bool → (List Nat) → Option R) : z0r an k i b9 (fun k' i' b9' => o (kn_ k' i' b9')) (fun c0_ c1_ c2_ c3_ => o (k0_ c0_ c1_ c2_ c3_)) = o (z0r an k i b9 kn_ k0_) := by
  unfold z0r
  repeat (first | apply grd_out h0 | apply br_out | rfl | exact h0.symm)
noncomputable def z07 (an : Nat) : Nat → Int → Int → (List Nat) → Option ((Int × Int × Bool × (List Nat)))
  | 0, _, _, _ => none
  | n + 1, k, i, b9 => z0r an  k i b9  (fun k' i' b9' => z07 an n k' i' b9') (fun c0_ c1_ c2_ c3_ => some (c0_, c1_, c2_, c3_))
theorem z6i (an : Nat) (n : Nat) (k : Int) (i : Int) (b9 : List Nat) : z07 an (n + 1) k i b9 = z0r an  k i b9  (fun k' i' b9' => z07 an n k' i' b9') (fun c0_ c1_ c2_ c3_ => some (c0_, c1_, c2_, c3_)) := rfl
noncomputable def laws_FnExactAddKnot__markFloat32S_l2_4_p (an : Nat) (k : Int) (i : Int) (b9 : List Nat) : Bool := (z07 an big k i b9).isSome
noncomputable def laws_FnExactAddKnot__markFloat32S_l2_4_a0_0 (an : Nat) (k : Int) (i : Int) (b9 : List Nat) : Int := ((z07 an big k i b9).getD default).1
noncomputable def laws_FnExactAddKnot__markFloat32S_l2_4_a0_1 (an : Nat) (k : Int) (i : Int) (b9 : List Nat) : Int := ((z07 an big k i b9).getD default).2.1
noncomputable def laws_FnExactAddKnot__markFloat32S_l2_4_a0_2 (an : Nat) (k : Int) (i : Int) (b9 : List Nat) : Bool := ((z07 an big k i b9).getD default).2.2.1
noncomputable def laws_FnExactAddKnot__markFloat32S_l2_4_a0_3 (an : Nat) (k : Int) (i : Int) (b9 : List Nat) : List Nat := ((z07 an big k i b9).getD default).2.2.2
theorem laws_FnExactAddKnot__markFloat32S_l2_4_of0 {an : Nat} {k : Int} {i : Int} {b9 : List Nat} {m : Nat} {r : Int × Int × Bool × (List Nat)} (hm : m = big) (h : z07 an m k i b9 = some r) : laws_FnExactAddKnot__markFloat32S_l2_4_p an k i b9 = true ∧ laws_FnExactAddKnot__markFloat32S_l2_4_a0_0 an k i b9 = r.1 ∧ laws_FnExactAddKnot__markFloat32S_l2_4_a0_1 an k i b9 = r.2.1 ∧ laws_FnExactAddKnot__markFloat32S_l2_4_a0_2 an k i b9 = r.2.2.1 ∧ laws_FnExactAddKnot__markFloat32S_l2_4_a0_3 an k i b9 = r.2.2.2 := by
  subst hm
  unfold laws_FnExactAddKnot__markFloat32S_l2_4_p laws_FnExactAddKnot__markFloat32S_l2_4_a0_0 laws_FnExactAddKnot__markFloat32S_l2_4_a0_1 laws_FnExactAddKnot__markFloat32S_l2_4_a0_2 laws_FnExactAddKnot__markFloat32S_l2_4_a0_3
  rw [h]
  exact ⟨rfl, rfl, rfl, rfl, rfl⟩
noncomputable def z0p {R : Type} (an : Nat) (k : Int) (i : Int) (b10 : List Nat) (kn_ : Int → Int → (List Nat) → Option R) (k0_ : Int → Int → Bool → (List Nat) → Option R) : Option R := (br (ltI i (Int.ofNat an)) (grd (okIx i an) (kn_ (addI .i64 k 1) (addI .i64 i 1) (sF b10 (ixO 0 i 1) (fOI .f32 k)))) (k0_ k i (ltI i (Int.ofNat an)) b10))
theorem z71 (an : Nat) (k : Int) (i : Int) (b10 : List Nat) {R R' : Type} (o : Option R → Option R') (h0 : o none = none) (kn_ : Int → Int → (List Nat) → Option R) (k0_ : Int → Int → Bool → (List Nat) → Option R) : z0p an k i b10 (fun k' i' b10' => o (kn_ k' i' b10')) (fun c0_ c1_ c2_ c3_ => o (k0_ c0_ c1_ c2_ c3_)) = o (z0p an k i b10 kn_ k0_) := by
  unfold z0p
  repeat (first | apply grd_out h0 | apply br_out | rfl | exact h0.symm)
noncomputable def z08 (an : Nat) : Nat → Int → Int → (List Nat) → Option ((Int × Int × Bool × (List Nat)))
  | 0, _, _, _ => none
  | n + 1, k, i, b10 => z0p an  k i b10  (fun k' i' b10' => z08 an n k' i' b10') (fun c0_ c1_ c2_ c3_ => some (c0_, c1_, c2_, c3_))
theorem z6s (an : Nat) (n : Nat) (k : Int) (i : Int) (b10 : List Nat) : z08 an (n + 1) k i b10 = z0p an  k i b10  (fun k' i' b10' => z08 an n k' i' b10') (fun c0_ c1_ c2_ c3_ => some (c0_, c1_, c2_, c3_)) := rfl
noncomputable def laws_FnExactAddKnot__markFloat32S_l2_5_p (an : Nat) (k : Int) (i : Int) (b10 : List Nat) : Bool := (z08 an big k i b10).isSome
noncomputable def laws_FnExactAddKnot__markFloat32S_l2_5_a0_0 (an : Nat) (k : Int) (i : Int) (b10 : List Nat) : Int := ((z08 an big k i b10).getD default).1
noncomputable def laws_FnExactAddKnot__markFloat32S_l2_5_a0_1 (an : Nat) (k : Int) (i : Int) (b10 : List Nat) : Int := ((z08 an big k i b10).getD default).2.1
noncomputable def laws_FnExactAddKnot__markFloat32S_l2_5_a0_2 (an : Nat) (k : Int) (i : Int) (b10 : List Nat) : Bool := ((z08 an big k i b10).getD default).2.2.1
noncomputable def laws_FnExactAddKnot__markFloat32S_l2_5_a0_3 (an : Nat) (k : Int) (i : Int) (b10 : List Nat) : List Nat := ((z08 an big k i b10).getD default).2.2.2
theorem laws_FnExactAddKnot__markFloat32S_l2_5_of0 {an : Nat} {k : Int} {i : Int} {b10 : List Nat} {m : Nat} {r : Int × Int × Bool × (List Nat)} (hm : m = big) (h : z08 an m k i b10 = some r) : laws_FnExactAddKnot__markFloat32S_l2_5_p an k i b10 = true ∧ laws_FnExactAddKnot__markFloat32S_l2_5_a0_0 an k i b10 = r.1 ∧ laws_FnExactAddKnot__markFloat32S_l2_5_a0_1 an k i b10 = r.2.1 ∧ laws_FnExactAddKnot__markFloat32S_l2_5_a0_2 an k i b10 = r.2.2.1 ∧ laws_FnExactAddKnot__markFloat32S_l2_5_a0_3 an k i b10 = r.2.2.2 := by
  subst hm
  unfold laws_FnExactAddKnot__markFloat32S_l2_5_p laws_FnExactAddKnot__markFloat32S_l2_5_a0_0 laws_FnExactAddKnot__markFloat32S_l2_5_a0_1 laws_FnExactAddKnot__markFloat32S_l2_5_a0_2 laws_FnExactAddKnot__markFloat32S_l2_5_a0_3
  rw [h]
  exact ⟨rfl, rfl, rfl, rfl, rfl⟩
noncomputable def z0o {R : Type} (an : Nat) (k : Int) (i : Int) (b11 : List Nat) (kn_ : Int → Int → (List Nat) → Option R) (k0_ : Int → Int → Bool → (List Nat) → Option R) : Option R := (br (ltI i (Int.ofNat an)) (grd (okIx i an) (kn_ (addI .i64 k 1) (addI .i64 i 1) (sF b11 (ixO 0 i 1) (fOI .f32 k)))) (k0_ k i (ltI i (Int.ofNat an)) b11))
theorem z73 (an : Nat) (k : Int) (i : Int) (b11 : List Nat) {R R' : Type} (o : Option R → Option R') (h0 : o none = none) (kn_ : Int → Int → (List Nat) → Option R) (k0_ : Int → Int → Bool → (List Nat) → Option R) : z0o an k i b11 (fun k' i' b11' => o (kn_ k' i' b11')) (fun c0_ c1_ c2_ c3_ => o (k0_ c0_ c1_ c2_ c3_)) = o (z0o an k i b11 kn_ k0_) := by
  unfold z0o
  repeat (first | apply grd_out h0 | apply br_out | rfl | exact h0.symm)
noncomputable def z05 (an : Nat) : Nat → Int → Int → (List Nat) → Option ((Int × Int × Bool × (List Nat)))
  | 0, _, _, _ => none
  | n + 1, k, i, b11 => z0o an  k i b11  (fun k' i' b11' => z05 an n k' i' b11') (fun c0_ c1_ c2_ c3_ => some (c0_, c1_, c2_, c3_))
theorem z6k (an : Nat) (n : Nat) (k : Int) (i : Int) (b11 : List Nat) : z05 an (n + 1) k i b11 = z0o an  k i b11  (fun k' i' b11' => z05 an n k' i' b11') (fun c0_ c1_ c2_ c3_ => some (c0_, c1_, c2_, c3_)) := rfl
noncomputable def laws_FnExactAddKnot__markFloat32S_l2_6_p (an : Nat) (k : Int) (i : Int) (b11 : List Nat) : Bool := (z05 an big k i b11).isSome
noncomputable def laws_FnExactAddKnot__markFloat32S_l2_6_a0_0 (an : Nat) (k : Int) (i : Int) (b11 : List Nat) : Int := ((z05 an big k i b11).getD default).1
noncomputable def laws_FnExactAddKnot__markFloat32S_l2_6_a0_1 (an : Nat) (k : Int) (i : Int) (b11 : List Nat) : Int := ((z05 an big k i b11).getD default).2.1
noncomputable def laws_FnExactAddKnot__markFloat32S_l2_6_a0_2 (an : Nat) (k : Int) (i : Int) (b11 : List Nat) : Bool := ((z05 an big k i b11).getD default).2.2.1
noncomputable def laws_FnExactAddKnot__markFloat32S_l2_6_a0_3 (an : Nat) (k : Int) (i : Int) (b11 : List Nat) : List Nat := ((z05 an big k i b11).getD default).2.2.2
theorem laws_FnExactAddKnot__markFloat32S_l2_6_of0 {an : Nat} {k : Int} {i : Int} {b11 : List Nat} {m : Nat} {r : Int × Int × Bool × (List Nat)} (hm : m = big) (h : z05 an m k i b11 = some r) : laws_FnExactAddKnot__markFloat32S_l2_6_p an k i b11 = true ∧ laws_FnExactAddKnot__markFloat32S_l2_6_a0_0 an k i b11 = r.1 ∧ laws_FnExactAddKnot__markFloat32S_l2_6_a0_1 an k i b11 = r.2.1 ∧ laws_FnExactAddKnot__markFloat32S_l2_6_a0_2 an k i b11 = r.2.2.1 ∧ laws_FnExactAddKnot__markFloat32S_l2_6_a0_3 an k i b11 = r.2.2.2 := by
  subst hm
  unfold laws_FnExactAddKnot__markFloat32S_l2_6_p laws_FnExactAddKnot__markFloat32S_l2_6_a0_0 laws_FnExactAddKnot__markFloat32S_l2_6_a0_1 laws_FnExactAddKnot__markFloat32S_l2_6_a0_2 laws_FnExactAddKnot__markFloat32S_l2_6_a0_3
  rw [h]
  exact ⟨rfl, rfl, rfl, rfl, rfl⟩
noncomputable def laws_FnExactAddKnot_c0 (q00 : Nat) (q03 : List Nat) (q01 : Nat) (q04 : List Nat) (q02 : Nat) (q05 : List Nat) (x1 : Nat) (x2 : Nat) (x3 : Nat) := (z7n q00 (pF q03 0 (muN q00 1)) q01 (pF q04 0 (muN q01 1)) q02 (pF q05 0 (muN q02 1)))
noncomputable def laws_FnExactAddKnot_c1 (q00 : Nat) (q03 : List Nat) (q01 : Nat) (q04 : List Nat) (q02 : Nat) (q05 : List Nat) (x1 : Nat) (x2 : Nat) (x3 : Nat) := (z7f q00 (pF q03 0 (muN q00 1)) q01 (pF q04 0 (muN q01 1)) q02 (pF q05 0 (muN q02 1)))
noncomputable def laws_FnExactAddKnot_c2 (q00 : Nat) (q03 : List Nat) (q01 : Nat) (q04 : List Nat) (q02 : Nat) (q05 : List Nat) (x1 : Nat) (x2 : Nat) (x3 : Nat) := (z7q q00 (pF q03 0 (muN q00 1)) q01 (pF q04 0 (muN q01 1)) q02 (pF q05 0 (muN q02 1)))
noncomputable def laws_FnExactAddKnot_c3 (q00 : Nat) (q03 : List Nat) (q01 : Nat) (q04 : List Nat) (q02 : Nat) (q05 : List Nat) (x1 : Nat) (x2 : Nat) (x3 : Nat) := (z8w q00 (pF q03 0 (muN q00 1)) q01 (pF q04 0 (muN q01 1)) q02 (pF q05 0 (muN q02 1)))
noncomputable def laws_FnExactAddKnot_c4 (q00 : Nat) (q03 : List Nat) (q01 : Nat) (q04 : List Nat) (q02 : Nat) (q05 : List Nat) (x1 : Nat) (x2 : Nat) (x3 : Nat) := (z7l q00 (pF q03 0 (muN q00 1)) q01 (pF q04 0 (muN q01 1)) q02 (pF q05 0 (muN q02 1)))
noncomputable def laws_FnExactAddKnot_c5 (q00 : Nat) (q03 : List Nat) (q01 : Nat) (q04 : List Nat) (q02 : Nat) (q05 : List Nat) (x1 : Nat) (x2 : Nat) (x3 : Nat) := (z7h q00 (pF q03 0 (muN q00 1)) q01 (pF q04 0 (muN q01 1)) q02 (pF q05 0 (muN q02 1)))
noncomputable def laws_FnExactAddKnot_c6 (q00 : Nat) (q03 : List Nat) (q01 : Nat) (q04 : List Nat) (q02 : Nat) (q05 : List Nat) (x1 : Nat) (x2 : Nat) (x3 : Nat) := (z7p q00 (pF q03 0 (muN q00 1)) q01 (pF q04 0 (muN q01 1)) q02 (pF q05 0 (muN q02 1)))
noncomputable def laws_FnExactAddKnot_c7 (q00 : Nat) (q03 : List Nat) (q01 : Nat) (q04 : List Nat) (q02 : Nat) (q05 : List Nat) (x1 : Nat) (x2 : Nat) (x3 : Nat) := (laws_FnExactAddKnot__markFloat32S_l2_a0_0 (laws_FnExactAddKnot_c5 q00 q03 q01 q04 q02 q05 x1 x2 x3) 1 0 (laws_FnExactAddKnot_c2 q00 q03 q01 q04 q02 q05 x1 x2 x3))
noncomputable def laws_FnExactAddKnot_c8 (q00 : Nat) (q03 : List Nat) (q01 : Nat) (q04 : List Nat) (q02 : Nat) (q05 : List Nat) (x1 : Nat) (x2 : Nat) (x3 : Nat) := (pF (laws_FnExactAddKnot_c2 q00 q03 q01 q04 q02 q05 x1 x2 x3) 0 (muN (laws_FnExactAddKnot_c5 q00 q03 q01 q04 q02 q05 x1 x2 x3) 1))
noncomputable def laws_FnExactAddKnot_c9 (q00 : Nat) (q03 : List Nat) (q01 : Nat) (q04 : List Nat) (q02 : Nat) (q05 : List Nat) (x1 : Nat) (x2 : Nat) (x3 : Nat) := (pF (laws_FnExactAddKnot_c1 q00 q03 q01 q04 q02 q05 x1 x2 x3) 0 (muN (laws_FnExactAddKnot_c0 q00 q03 q01 q04 q02 q05 x1 x2 x3) 1))
noncomputable def laws_FnExactAddKnot_c10 (q00 : Nat) (q03 : List Nat) (q01 : Nat) (q04 : List Nat) (q02 : Nat) (q05 : List Nat) (x1 : Nat) (x2 : Nat) (x3 : Nat) := (pF (laws_FnExactAddKnot_c6 q00 q03 q01 q04 q02 q05 x1 x2 x3) 0 (muN (laws_FnExactAddKnot_c4 q00 q03 q01 q04 q02 q05 x1 x2 x3) 1))
noncomputable def laws_FnExactAddKnot_c11 (q00 : Nat) (q03 : List Nat) (q01 : Nat) (q04 : List Nat) (q02 : Nat) (q05 : List Nat) (x1 : Nat) (x2 : Nat) (x3 : Nat) := (laws_FnExactAddKnot__markFloat32S_l2_2_a0_0 (laws_FnExactAddKnot_c4 q00 q03 q01 q04 q02 q05 x1 x2 x3) (laws_FnExactAddKnot_c7 q00 q03 q01 q04 q02 q05 x1 x2 x3) 0 (laws_FnExactAddKnot_c6 q00 q03 q01 q04 q02 q05 x1 x2 x3))
noncomputable def laws_FnExactAddKnot_c12 (q00 : Nat) (q03 : List Nat) (q01 : Nat) (q04 : List Nat) (q02 : Nat) (q05 : List Nat) (x1 : Nat) (x2 : Nat) (x3 : Nat) := (z9l (laws_FnExactAddKnot_c5 q00 q03 q01 q04 q02 q05 x1 x2 x3) (laws_FnExactAddKnot_c8 q00 q03 q01 q04 q02 q05 x1 x2 x3) (laws_FnExactAddKnot_c4 q00 q03 q01 q04 q02 q05 x1 x2 x3) (laws_FnExactAddKnot_c10 q00 q03 q01 q04 q02 q05 x1 x2 x3) (laws_FnExactAddKnot_c0 q00 q03 q01 q04 q02 q05 x1 x2 x3) (laws_FnExactAddKnot_c9 q00 q03 q01 q04 q02 q05 x1 x2 x3) x1 x2 x3)
noncomputable def laws_FnExactAddKnot_c13 (q00 : Nat) (q03 : List Nat) (q01 : Nat) (q04 : List Nat) (q02 : Nat) (q05 : List Nat) (x1 : Nat) (x2 : Nat) (x3 : Nat) := (z9s (laws_FnExactAddKnot_c5 q00 q03 q01 q04 q02 q05 x1 x2 x3) (laws_FnExactAddKnot_c8 q00 q03 q01 q04 q02 q05 x1 x2 x3) (laws_FnExactAddKnot_c4 q00 q03 q01 q04 q02 q05 x1 x2 x3) (laws_FnExactAddKnot_c10 q00 q03 q01 q04 q02 q05 x1 x2 x3) (laws_FnExactAddKnot_c0 q00 q03 q01 q04 q02 q05 x1 x2 x3) (laws_FnExactAddKnot_c9 q00 q03 q01 q04 q02 q05 x1 x2 x3) x1 x2 x3)
noncomputable def laws_FnExactAddKnot_c14 (q00 : Nat) (q03 : List Nat) (q01 : Nat) (q04 : List Nat) (q02 : Nat) (q05 : List Nat) (x1 : Nat) (x2 : Nat) (x3 : Nat) := (z9q (laws_FnExactAddKnot_c5 q00 q03 q01 q04 q02 q05 x1 x2 x3) (laws_FnExactAddKnot_c8 q00 q03 q01 q04 q02 q05 x1 x2 x3) (laws_FnExactAddKnot_c4 q00 q03 q01 q04 q02 q05 x1 x2 x3) (laws_FnExactAddKnot_c10 q00 q03 q01 q04 q02 q05 x1 x2 x3) (laws_FnExactAddKnot_c0 q00 q03 q01 q04 q02 q05 x1 x2 x3) (laws_FnExactAddKnot_c9 q00 q03 q01 q04 q02 q05 x1 x2 x3) x1 x2 x3)
noncomputable def laws_FnExactAddKnot_c15 (q00 : Nat) (q03 : List Nat) (q01 : Nat) (q04 : List Nat) (q02 : Nat) (q05 : List Nat) (x1 : Nat) (x2 : Nat) (x3 : Nat) := (z9x (laws_FnExactAddKnot_c5 q00 q03 q01 q04 q02 q05 x1 x2 x3) (laws_FnExactAddKnot_c8 q00 q03 q01 q04 q02 q05 x1 x2 x3) (laws_FnExactAddKnot_c4 q00 q03 q01 q04 q02 q05 x1 x2 x3) (laws_FnExactAddKnot_c10 q00 q03 q01 q04 q02 q05 x1 x2 x3) (laws_FnExactAddKnot_c0 q00 q03 q01 q04 q02 q05 x1 x2 x3) (laws_FnExactAddKnot_c9 q00 q03 q01 q04 q02 q05 x1 x2 x3) x1 x2 x3)
noncomputable def laws_FnExactAddKnot_c16 (q00 : Nat) (q03 : List Nat) (q01 : Nat) (q04 : List Nat) (q02 : Nat) (q05 : List Nat) (x1 : Nat) (x2 : Nat) (x3 : Nat) := (za1 (laws_FnExactAddKnot_c5 q00 q03 q01 q04 q02 q05 x1 x2 x3) (laws_FnExactAddKnot_c8 q00 q03 q01 q04 q02 q05 x1 x2 x3) (laws_FnExactAddKnot_c4 q00 q03 q01 q04 q02 q05 x1 x2 x3) (laws_FnExactAddKnot_c10 q00 q03 q01 q04 q02 q05 x1 x2 x3) (laws_FnExactAddKnot_c0 q00 q03 q01 q04 q02 q05 x1 x2 x3) (laws_FnExactAddKnot_c9 q00 q03 q01 q04 q02 q05 x1 x2 x3) x1 x2 x3)
noncomputable def laws_FnExactAddKnot_c17 (q00 : Nat) (q03 : List Nat) (q01 : Nat) (q04 : List Nat) (q02 : Nat) (q05 : List Nat) (x1 : Nat) (x2 : Nat) (x3 : Nat) := (za3 (laws_FnExactAddKnot_c5 q00 q03 q01 q04 q02 q05 x1 x2 x3) (laws_FnExactAddKnot_c8 q00 q03 q01 q04 q02 q05 x1 x2 x3) (laws_FnExactAddKnot_c4 q00 q03 q01 q04 q02 q05 x1 x2 x3) (laws_FnExactAddKnot_c10 q00 q03 q01 q04 q02 q05 x1 x2 x3) (laws_FnExactAddKnot_c0 q00 q03 q01 q04 q02 q05 x1 x2 x3) (laws_FnExactAddKnot_c9 q00 q03 q01 q04 q02 q05 x1 x2 x3) x1 x2 x3)
noncomputable def laws_FnExactAddKnot_c18 (q00 : Nat) (q03 : List Nat) (q01 : Nat) (q04 : List Nat) (q02 : Nat) (q05 : List Nat) (x1 : Nat) (x2 : Nat) (x3 : Nat) := (zai (laws_FnExactAddKnot_c5 q00 q03 q01 q04 q02 q05 x1 x2 x3) (laws_FnExactAddKnot_c8 q00 q03 q01 q04 q02 q05 x1 x2 x3) (laws_FnExactAddKnot_c4 q00 q03 q01 q04 q02 q05 x1 x2 x3) (laws_FnExactAddKnot_c10 q00 q03 q01 q04 q02 q05 x1 x2 x3) (laws_FnExactAddKnot_c0 q00 q03 q01 q04 q02 q05 x1 x2 x3) (laws_FnExactAddKnot_c9 q00 q03 q01 q04 q02 q05 x1 x2 x3) x1 x2 x3)
noncomputable def laws_FnExactAddKnot_c19 (q00 : Nat) (q03 : List Nat) (q01 : Nat) (q04 : List Nat) (q02 : Nat) (q05 : List Nat) (x1 : Nat) (x2 : Nat) (x3 : Nat) := (z9w (laws_FnExactAddKnot_c5 q00 q03 q01 q04 q02 q05 x1 x2 x3) (laws_FnExactAddKnot_c8 q00 q03 q01 q04 q02 q05 x1 x2 x3) (laws_FnExactAddKnot_c4 q00 q03 q01 q04 q02 q05 x1 x2 x3) (laws_FnExactAddKnot_c10 q00 q03 q01 q04 q02 q05 x1 x2 x3) (laws_FnExactAddKnot_c0 q00 q03 q01 q04 q02 q05 x1 x2 x3) (laws_FnExactAddKnot_c9 q00 q03 q01 q04 q02 q05 x1 x2 x3) x1 x2 x3)
noncomputable def laws_FnExactAddKnot_c20 (q00 : Nat) (q03 : List Nat) (q01 : Nat) (q04 : List Nat) (q02 : Nat) (q05 : List Nat) (x1 : Nat) (x2 : Nat) (x3 : Nat) := (z9u (laws_FnExactAddKnot_c5 q00 q03 q01 q04 q02 q05 x1 x2 x3) (laws_FnExactAddKnot_c8 q00 q03 q01 q04 q02 q05 x1 x2 x3) (laws_FnExactAddKnot_c4 q00 q03 q01 q04 q02 q05 x1 x2 x3) (laws_FnExactAddKnot_c10 q00 q03 q01 q04 q02 q05 x1 x2 x3) (laws_FnExactAddKnot_c0 q00 q03 q01 q04 q02 q05 x1 x2 x3) (laws_FnExactAddKnot_c9 q00 q03 q01 q04 q02 q05 x1 x2 x3) x1 x2 x3)
noncomputable def laws_FnExactAddKnot_c21 (q00 : Nat) (q03 : List Nat) (q01 : Nat) (q04 : List Nat) (q02 : Nat) (q05 : List Nat) (x1 : Nat) (x2 : Nat) (x3 : Nat) := (z9m (laws_FnExactAddKnot_c5 q00 q03 q01 q04 q02 q05 x1 x2 x3) (laws_FnExactAddKnot_c8 q00 q03 q01 q04 q02 q05 x1 x2 x3) (laws_FnExactAddKnot_c4 q00 q03 q01 q04 q02 q05 x1 x2 x3) (laws_FnExactAddKnot_c10 q00 q03 q01 q04 q02 q05 x1 x2 x3) (laws_FnExactAddKnot_c0 q00 q03 q01 q04 q02 q05 x1 x2 x3) (laws_FnExactAddKnot_c9 q00 q03 q01 q04 q02 q05 x1 x2 x3) x1 x2 x3)
noncomputable def laws_FnExactAddKnot_c22 (q00 : Nat) (q03 : List Nat) (q01 : Nat) (q04 : List Nat) (q02 : Nat) (q05 : List Nat) (x1 : Nat) (x2 : Nat) (x3 : Nat) := (muN (laws_FnExactAddKnot_c19 q00 q03 q01 q04 q02 q05 x1 x2 x3) 1)
noncomputable def laws_FnExactAddKnot_c23 (q00 : Nat) (q03 : List Nat) (q01 : Nat) (q04 : List Nat) (q02 : Nat) (q05 : List Nat) (x1 : Nat) (x2 : Nat) (x3 : Nat) := (muN (laws_FnExactAddKnot_c21 q00 q03 q01 q04 q02 q05 x1 x2 x3) 1)
noncomputable def laws_FnExactAddKnot_c24 (q00 : Nat) (q03 : List Nat) (q01 : Nat) (q04 : List Nat) (q02 : Nat) (q05 : List Nat) (x1 : Nat) (x2 : Nat) (x3 : Nat) := (muN (laws_FnExactAddKnot_c20 q00 q03 q01 q04 q02 q05 x1 x2 x3) 1)
noncomputable def laws_FnExactAddKnot_c25 (q00 : Nat) (q03 : List Nat) (q01 : Nat) (q04 : List Nat) (q02 : Nat) (q05 : List Nat) (x1 : Nat) (x2 : Nat) (x3 : Nat) := (bnot (beqB (z9p (laws_FnExactAddKnot_c5 q00 q03 q01 q04 q02 q05 x1 x2 x3) (laws_FnExactAddKnot_c8 q00 q03 q01 q04 q02 q05 x1 x2 x3) (laws_FnExactAddKnot_c4 q00 q03 q01 q04 q02 q05 x1 x2 x3) (laws_FnExactAddKnot_c10 q00 q03 q01 q04 q02 q05 x1 x2 x3) (laws_FnExactAddKnot_c0 q00 q03 q01 q04 q02 q05 x1 x2 x3) (laws_FnExactAddKnot_c9 q00 q03 q01 q04 q02 q05 x1 x2 x3) x1 x2 x3) (z9r (laws_FnExactAddKnot_c5 q00 q03 q01 q04 q02 q05 x1 x2 x3) (laws_FnExactAddKnot_c8 q00 q03 q01 q04 q02 q05 x1 x2 x3) (laws_FnExactAddKnot_c4 q00 q03 q01 q04 q02 q05 x1 x2 x3) (laws_FnExactAddKnot_c10 q00 q03 q01 q04 q02 q05 x1 x2 x3) (laws_FnExactAddKnot_c0 q00 q03 q01 q04 q02 q05 x1 x2 x3) (laws_FnExactAddKnot_c9 q00 q03 q01 q04 q02 q05 x1 x2 x3) x1 x2 x3)))
noncomputable def laws_FnExactAddKnot_c26 (q00 : Nat) (q03 : List Nat) (q01 : Nat) (q04 : List Nat) (q02 : Nat) (q05 : List Nat) (x1 : Nat) (x2 : Nat) (x3 : Nat) := (laws_FnExactAddKnot__markFloat32S_l2_4_a0_0 (laws_FnExactAddKnot_c19 q00 q03 q01 q04 q02 q05 x1 x2 x3) 1 0 (laws_FnExactAddKnot_c16 q00 q03 q01 q04 q02 q05 x1 x2 x3))
noncomputable def laws_FnExactAddKnot_c27 (q00 : Nat) (q03 : List Nat) (q01 : Nat) (q04 : List Nat) (q02 : Nat) (q05 : List Nat) (x1 : Nat) (x2 : Nat) (x3 : Nat) := (pF (laws_FnExactAddKnot_c15 q00 q03 q01 q04 q02 q05 x1 x2 x3) 0 (laws_FnExactAddKnot_c23 q00 q03 q01 q04 q02 q05 x1 x2 x3))
noncomputable def laws_FnExactAddKnot_c28 (q00 : Nat) (q03 : List Nat) (q01 : Nat) (q04 : List Nat) (q02 : Nat) (q05 : List Nat) (x1 : Nat) (x2 : Nat) (x3 : Nat) := (pF (z9v (laws_FnExactAddKnot_c5 q00 q03 q01 q04 q02 q05 x1 x2 x3) (laws_FnExactAddKnot_c8 q00 q03 q01 q04 q02 q05 x1 x2 x3) (laws_FnExactAddKnot_c4 q00 q03 q01 q04 q02 q05 x1 x2 x3) (laws_FnExactAddKnot_c10 q00 q03 q01 q04 q02 q05 x1 x2 x3) (laws_FnExactAddKnot_c0 q00 q03 q01 q04 q02 q05 x1 x2 x3) (laws_FnExactAddKnot_c9 q00 q03 q01 q04 q02 q05 x1 x2 x3) x1 x2 x3) 0 (muN (laws_FnExactAddKnot_c13 q00 q03 q01 q04 q02 q05 x1 x2 x3) 1))
noncomputable def laws_FnExactAddKnot_c29 (q00 : Nat) (q03 : List Nat) (q01 : Nat) (q04 : List Nat) (q02 : Nat) (q05 : List Nat) (x1 : Nat) (x2 : Nat) (x3 : Nat) := (pF (z9t (laws_FnExactAddKnot_c5 q00 q03 q01 q04 q02 q05 x1 x2 x3) (laws_FnExactAddKnot_c8 q00 q03 q01 q04 q02 q05 x1 x2 x3) (laws_FnExactAddKnot_c4 q00 q03 q01 q04 q02 q05 x1 x2 x3) (laws_FnExactAddKnot_c10 q00 q03 q01 q04 q02 q05 x1 x2 x3) (laws_FnExactAddKnot_c0 q00 q03 q01 q04 q02 q05 x1 x2 x3) (laws_FnExactAddKnot_c9 q00 q03 q01 q04 q02 q05 x1 x2 x3) x1 x2 x3) 0 (muN (laws_FnExactAddKnot_c14 q00 q03 q01 q04 q02 q05 x1 x2 x3) 1))
noncomputable def laws_FnExactAddKnot_c30 (q00 : Nat) (q03 : List Nat) (q01 : Nat) (q04 : List Nat) (q02 : Nat) (q05 : List Nat) (x1 : Nat) (x2 : Nat) (x3 : Nat) := (pF (laws_FnExactAddKnot_c17 q00 q03 q01 q04 q02 q05 x1 x2 x3) 0 (laws_FnExactAddKnot_c24 q00 q03 q01 q04 q02 q05 x1 x2 x3))
noncomputable def laws_FnExactAddKnot_c31 (q00 : Nat) (q03 : List Nat) (q01 : Nat) (q04 : List Nat) (q02 : Nat) (q05 : List Nat) (x1 : Nat) (x2 : Nat) (x3 : Nat) := (pF (laws_FnExactAddKnot_c16 q00 q03 q01 q04 q02 q05 x1 x2 x3) 0 (laws_FnExactAddKnot_c22 q00 q03 q01 q04 q02 q05 x1 x2 x3))
noncomputable def laws_FnExactAddKnot_c32 (q00 : Nat) (q03 : List Nat) (q01 : Nat) (q04 : List Nat) (q02 : Nat) (q05 : List Nat) (x1 : Nat) (x2 : Nat) (x3 : Nat) := (pF (z9n (laws_FnExactAddKnot_c5 q00 q03 q01 q04 q02 q05 x1 x2 x3) (laws_FnExactAddKnot_c8 q00 q03 q01 q04 q02 q05 x1 x2 x3) (laws_FnExactAddKnot_c4 q00 q03 q01 q04 q02 q05 x1 x2 x3) (laws_FnExactAddKnot_c10 q00 q03 q01 q04 q02 q05 x1 x2 x3) (laws_FnExactAddKnot_c0 q00 q03 q01 q04 q02 q05 x1 x2 x3) (laws_FnExactAddKnot_c9 q00 q03 q01 q04 q02 q05 x1 x2 x3) x1 x2 x3) 0 (muN (laws_FnExactAddKnot_c12 q00 q03 q01 q04 q02 q05 x1 x2 x3) 1))
noncomputable def laws_FnExactAddKnot_c33 (q00 : Nat) (q03 : List Nat) (q01 : Nat) (q04 : List Nat) (q02 : Nat) (q05 : List Nat) (x1 : Nat) (x2 : Nat) (x3 : Nat) := (pF (laws_FnExactAddKnot__markFloat32S_l2_4_a0_3 (laws_FnExactAddKnot_c19 q00 q03 q01 q04 q02 q05 x1 x2 x3) 1 0 (laws_FnExactAddKnot_c16 q00 q03 q01 q04 q02 q05 x1 x2 x3)) 0 (laws_FnExactAddKnot_c22 q00 q03 q01 q04 q02 q05 x1 x2 x3))
noncomputable def laws_FnExactAddKnot_c34 (q00 : Nat) (q03 : List Nat) (q01 : Nat) (q04 : List Nat) (q02 : Nat) (q05 : List Nat) (x1 : Nat) (x2 : Nat) (x3 : Nat) := (laws_FnExactAddKnot__markFloat32S_l2_5_a0_0 (laws_FnExactAddKnot_c20 q00 q03 q01 q04 q02 q05 x1 x2 x3) (laws_FnExactAddKnot_c26 q00 q03 q01 q04 q02 q05 x1 x2 x3) 0 (laws_FnExactAddKnot_c17 q00 q03 q01 q04 q02 q05 x1 x2 x3))
noncomputable def laws_FnExactAddKnot_c35 (q00 : Nat) (q03 : List Nat) (q01 : Nat) (q04 : List Nat) (q02 : Nat) (q05 : List Nat) (x1 : Nat) (x2 : Nat) (x3 : Nat) := (pF (laws_FnExactAddKnot__markFloat32S_l2_5_a0_3 (laws_FnExactAddKnot_c20 q00 q03 q01 q04 q02 q05 x1 x2 x3) (laws_FnExactAddKnot_c26 q00 q03 q01 q04 q02 q05 x1 x2 x3) 0 (laws_FnExactAddKnot_c17 q00 q03 q01 q04 q02 q05 x1 x2 x3)) 0 (laws_FnExactAddKnot_c24 q00 q03 q01 q04 q02 q05 x1 x2 x3))
noncomputable def laws_FnExactAddKnot_c36 (q00 : Nat) (q03 : List Nat) (q01 : Nat) (q04 : List Nat) (q02 : Nat) (q05 : List Nat) (x1 : Nat) (x2 : Nat) (x3 : Nat) := (pF (laws_FnExactAddKnot__markFloat32S_l2_6_a0_3 (laws_FnExactAddKnot_c21 q00 q03 q01 q04 q02 q05 x1 x2 x3) (laws_FnExactAddKnot_c34 q00 q03 q01 q04 q02 q05 x1 x2 x3) 0 (laws_FnExactAddKnot_c15 q00 q03 q01 q04 q02 q05 x1 x2 x3)) 0 (laws_FnExactAddKnot_c23 q00 q03 q01 q04 q02 q05 x1 x2 x3))
noncomputable def laws_FnExactAddKnot_c37 (q00 : Nat) (q03 : List Nat) (q01 : Nat) (q04 : List Nat) (q02 : Nat) (q05 : List Nat) (x1 : Nat) (x2 : Nat) (x3 : Nat) := (z5z (laws_FnExactAddKnot_c19 q00 q03 q01 q04 q02 q05 x1 x2 x3) (laws_FnExactAddKnot_c31 q00 q03 q01 q04 q02 q05 x1 x2 x3) (laws_FnExactAddKnot_c20 q00 q03 q01 q04 q02 q05 x1 x2 x3) (laws_FnExactAddKnot_c30 q00 q03 q01 q04 q02 q05 x1 x2 x3) (laws_FnExactAddKnot_c21 q00 q03 q01 q04 q02 q05 x1 x2 x3) (laws_FnExactAddKnot_c27 q00 q03 q01 q04 q02 q05 x1 x2 x3) (laws_FnExactAddKnot_c12 q00 q03 q01 q04 q02 q05 x1 x2 x3) (laws_FnExactAddKnot_c32 q00 q03 q01 q04 q02 q05 x1 x2 x3) (laws_FnExactAddKnot_c13 q00 q03 q01 q04 q02 q05 x1 x2 x3) (laws_FnExactAddKnot_c28 q00 q03 q01 q04 q02 q05 x1 x2 x3) (laws_FnExactAddKnot_c14 q00 q03 q01 q04 q02 q05 x1 x2 x3) (laws_FnExactAddKnot_c29 q00 q03 q01 q04 q02 q05 x1 x2 x3))
noncomputable def laws_FnExactAddKnot_c38 (q00 : Nat) (q03 : List Nat) (q01 : Nat) (q04 : List Nat) (q02 : Nat) (q05 : List Nat) (x1 : Nat) (x2 : Nat) (x3 : Nat) := (bnot (z5o (laws_FnExactAddKnot_c19 q00 q03 q01 q04 q02 q05 x1 x2 x3) (laws_FnExactAddKnot_c31 q00 q03 q01 q04 q02 q05 x1 x2 x3) (laws_FnExactAddKnot_c20 q00 q03 q01 q04 q02 q05 x1 x2 x3) (laws_FnExactAddKnot_c30 q00 q03 q01 q04 q02 q05 x1 x2 x3) (laws_FnExactAddKnot_c21 q00 q03 q01 q04 q02 q05 x1 x2 x3) (laws_FnExactAddKnot_c27 q00 q03 q01 q04 q02 q05 x1 x2 x3) (laws_FnExactAddKnot_c12 q00 q03 q01 q04 q02 q05 x1 x2 x3) (laws_FnExactAddKnot_c32 q00 q03 q01 q04 q02 q05 x1 x2 x3) (laws_FnExactAddKnot_c13 q00 q03 q01 q04 q02 q05 x1 x2 x3) (laws_FnExactAddKnot_c28 q00 q03 q01 q04 q02 q05 x1 x2 x3) (laws_FnExactAddKnot_c14 q00 q03 q01 q04 q02 q05 x1 x2 x3) (laws_FnExactAddKnot_c29 q00 q03 q01 q04 q02 q05 x1 x2 x3)))
noncomputable def laws_FnExactAddKnot_c39 (q00 : Nat) (q03 : List Nat) (q01 : Nat) (q04 : List Nat) (q02 : Nat) (q05 : List Nat) (x1 : Nat) (x2 : Nat) (x3 : Nat) := (z6j (laws_FnExactAddKnot_c19 q00 q03 q01 q04 q02 q05 x1 x2 x3) (laws_FnExactAddKnot_c33 q00 q03 q01 q04 q02 q05 x1 x2 x3) (laws_FnExactAddKnot_c20 q00 q03 q01 q04 q02 q05 x1 x2 x3) (laws_FnExactAddKnot_c35 q00 q03 q01 q04 q02 q05 x1 x2 x3) (laws_FnExactAddKnot_c21 q00 q03 q01 q04 q02 q05 x1 x2 x3) (laws_FnExactAddKnot_c36 q00 q03 q01 q04 q02 q05 x1 x2 x3) 1)
noncomputable def laws_FnExactAddKnot_c40 (q00 : Nat) (q03 : List Nat) (q01 : Nat) (q04 : List Nat) (q02 : Nat) (q05 : List Nat) (x1 : Nat) (x2 : Nat) (x3 : Nat) := (z62 (laws_FnExactAddKnot_c19 q00 q03 q01 q04 q02 q05 x1 x2 x3) (laws_FnExactAddKnot_c33 q00 q03 q01 q04 q02 q05 x1 x2 x3) (laws_FnExactAddKnot_c20 q00 q03 q01 q04 q02 q05 x1 x2 x3) (laws_FnExactAddKnot_c35 q00 q03 q01 q04 q02 q05 x1 x2 x3) (laws_FnExactAddKnot_c21 q00 q03 q01 q04 q02 q05 x1 x2 x3) (laws_FnExactAddKnot_c36 q00 q03 q01 q04 q02 q05 x1 x2 x3) 1)
noncomputable def laws_FnExactAddKnot_c41 (q00 : Nat) (q03 : List Nat) (q01 : Nat) (q04 : List Nat) (q02 : Nat) (q05 : List Nat) (x1 : Nat) (x2 : Nat) (x3 : Nat) := (ltI (laws_FnExactAddKnot_c40 q00 q03 q01 q04 q02 q05 x1 x2 x3) 0)
noncomputable def laws_FnExactAddKnot_c42 (q00 : Nat) (q03 : List Nat) (q01 : Nat) (q04 : List Nat) (q02 : Nat) (q05 : List Nat) (x1 : Nat) (x2 : Nat) (x3 : Nat) := (neI (laws_FnExactAddKnot_c40 q00 q03 q01 q04 q02 q05 x1 x2 x3) (laws_FnExactAddKnot__markFloat32S_l2_6_a0_0 (laws_FnExactAddKnot_c21 q00 q03 q01 q04 q02 q05 x1 x2 x3) (laws_FnExactAddKnot_c34 q00 q03 q01 q04 q02 q05 x1 x2 x3) 0 (laws_FnExactAddKnot_c15 q00 q03 q01 q04 q02 q05 x1 x2 x3)))
noncomputable def z30 {R : Type} (q00 : Nat) (q03 : List Nat) (q01 : Nat) (q04 : List Nat) (q02 : Nat) (q05 : List Nat) (x1 : Nat) (x2 : Nat) (x3 : Nat) (k_ : Bool → Option R) : Option R := (grd (z93 q00 (pF q03 0 (muN q00 1)) q01 (pF q04 0 (muN q01 1)) q02 (pF q05 0 (muN q02 1)) 1048576) (br (ltI (z7g q00 (pF q03 0 (muN q00 1)) q01 (pF q04 0 (muN q01 1)) q02 (pF q05 0 (muN q02 1)) 1048576) 0) (k_ Bool.true) (grd (laws_FnExactAddKnot_c3 q00 q03 q01 q04 q02 q05 x1 x2 x3) (grd (zak (laws_FnExactAddKnot_c5 q00 q03 q01 q04 q02 q05 x1 x2 x3) (laws_FnExactAddKnot_c8 q00 q03 q01 q04 q02 q05 x1 x2 x3) (laws_FnExactAddKnot_c4 q00 q03 q01 q04 q02 q05 x1 x2 x3) (laws_FnExactAddKnot_c10 q00 q03 q01 q04 q02 q05 x1 x2 x3) (laws_FnExactAddKnot_c0 q00 q03 q01 q04 q02 q05 x1 x2 x3) (laws_FnExactAddKnot_c9 q00 q03 q01 q04 q02 q05 x1 x2 x3) x1 x2 x3) (grd (laws_FnExactAddKnot_c3 q00 q03 q01 q04 q02 q05 x1 x2 x3) (grd (laws_FnExactAddKnot_c18 q00 q03 q01 q04 q02 q05 x1 x2 x3) (grd (laws_FnExactAddKnot_c37 q00 q03 q01 q04 q02 q05 x1 x2 x3) (br (laws_FnExactAddKnot_c38 q00 q03 q01 q04 q02 q05 x1 x2 x3) (k_ Bool.false) (br (laws_FnExactAddKnot_c25 q00 q03 q01 q04 q02 q05 x1 x2 x3) (k_ Bool.false) (grd (laws_FnExactAddKnot_c3 q00 q03 q01 q04 q02 q05 x1 x2 x3) (grd (z5z (laws_FnExactAddKnot_c5 q00 q03 q01 q04 q02 q05 x1 x2 x3) (laws_FnExactAddKnot_c8 q00 q03 q01 q04 q02 q05 x1 x2 x3) (laws_FnExactAddKnot_c4 q00 q03 q01 q04 q02 q05 x1 x2 x3) (laws_FnExactAddKnot_c10 q00 q03 q01 q04 q02 q05 x1 x2 x3) (laws_FnExactAddKnot_c0 q00 q03 q01 q04 q02 q05 x1 x2 x3) (laws_FnExactAddKnot_c9 q00 q03 q01 q04 q02 q05 x1 x2 x3) (laws_FnExactAddKnot_c5 q00 q03 q01 q04 q02 q05 x1 x2 x3) (laws_FnExactAddKnot_c8 q00 q03 q01 q04 q02 q05 x1 x2 x3) (laws_FnExactAddKnot_c4 q00 q03 q01 q04 q02 q05 x1 x2 x3) (laws_FnExactAddKnot_c10 q00 q03 q01 q04 q02 q05 x1 x2 x3) (laws_FnExactAddKnot_c0 q00 q03 q01 q04 q02 q05 x1 x2 x3) (laws_FnExactAddKnot_c9 q00 q03 q01 q04 q02 q05 x1 x2 x3)) (br (bnot (z5o (laws_FnExactAddKnot_c5 q00 q03 q01 q04 q02 q05 x1 x2 x3) (laws_FnExactAddKnot_c8 q00 q03 q01 q04 q02 q05 x1 x2 x3) (laws_FnExactAddKnot_c4 q00 q03 q01 q04 q02 q05 x1 x2 x3) (laws_FnExactAddKnot_c10 q00 q03 q01 q04 q02 q05 x1 x2 x3) (laws_FnExactAddKnot_c0 q00 q03 q01 q04 q02 q05 x1 x2 x3) (laws_FnExactAddKnot_c9 q00 q03 q01 q04 q02 q05 x1 x2 x3) (laws_FnExactAddKnot_c5 q00 q03 q01 q04 q02 q05 x1 x2 x3) (laws_FnExactAddKnot_c8 q00 q03 q01 q04 q02 q05 x1 x2 x3) (laws_FnExactAddKnot_c4 q00 q03 q01 q04 q02 q05 x1 x2 x3) (laws_FnExactAddKnot_c10 q00 q03 q01 q04 q02 q05 x1 x2 x3) (laws_FnExactAddKnot_c0 q00 q03 q01 q04 q02 q05 x1 x2 x3) (laws_FnExactAddKnot_c9 q00 q03 q01 q04 q02 q05 x1 x2 x3))) (k_ Bool.false) (grd (laws_FnExactAddKnot__markFloat32S_l2_p (laws_FnExactAddKnot_c5 q00 q03 q01 q04 q02 q05 x1 x2 x3) 1 0 (laws_FnExactAddKnot_c2 q00 q03 q01 q04 q02 q05 x1 x2 x3)) (grd (laws_FnExactAddKnot__markFloat32S_l2_2_p (laws_FnExactAddKnot_c4 q00 q03 q01 q04 q02 q05 x1 x2 x3) (laws_FnExactAddKnot_c7 q00 q03 q01 q04 q02 q05 x1 x2 x3) 0 (laws_FnExactAddKnot_c6 q00 q03 q01 q04 q02 q05 x1 x2 x3)) (grd (laws_FnExactAddKnot__markFloat32S_l2_3_p (laws_FnExactAddKnot_c0 q00 q03 q01 q04 q02 q05 x1 x2 x3) (laws_FnExactAddKnot_c11 q00 q03 q01 q04 q02 q05 x1 x2 x3) 0 (laws_FnExactAddKnot_c1 q00 q03 q01 q04 q02 q05 x1 x2 x3)) (br (ltI (laws_FnExactAddKnot__markFloat32S_l2_3_a0_0 (laws_FnExactAddKnot_c0 q00 q03 q01 q04 q02 q05 x1 x2 x3) (laws_FnExactAddKnot_c11 q00 q03 q01 q04 q02 q05 x1 x2 x3) 0 (laws_FnExactAddKnot_c1 q00 q03 q01 q04 q02 q05 x1 x2 x3)) 0) (k_ Bool.false) (grd (laws_FnExactAddKnot_c37 q00 q03 q01 q04 q02 q05 x1 x2 x3) (br (laws_FnExactAddKnot_c38 q00 q03 q01 q04 q02 q05 x1 x2 x3) (k_ Bool.false) (br (laws_FnExactAddKnot_c25 q00 q03 q01 q04 q02 q05 x1 x2 x3) (k_ Bool.false) (grd (laws_FnExactAddKnot__markFloat32S_l2_4_p (laws_FnExactAddKnot_c19 q00 q03 q01 q04 q02 q05 x1 x2 x3) 1 0 (laws_FnExactAddKnot_c16 q00 q03 q01 q04 q02 q05 x1 x2 x3)) (grd (laws_FnExactAddKnot__markFloat32S_l2_5_p (laws_FnExactAddKnot_c20 q00 q03 q01 q04 q02 q05 x1 x2 x3) (laws_FnExactAddKnot_c26 q00 q03 q01 q04 q02 q05 x1 x2 x3) 0 (laws_FnExactAddKnot_c17 q00 q03 q01 q04 q02 q05 x1 x2 x3)) (grd (laws_FnExactAddKnot__markFloat32S_l2_6_p (laws_FnExactAddKnot_c21 q00 q03 q01 q04 q02 q05 x1 x2 x3) (laws_FnExactAddKnot_c34 q00 q03 q01 q04 q02 q05 x1 x2 x3) 0 (laws_FnExactAddKnot_c15 q00 q03 q01 q04 q02 q05 x1 x2 x3)) (grd (laws_FnExactAddKnot_c39 q00 q03 q01 q04 q02 q05 x1 x2 x3) (br (laws_FnExactAddKnot_c41 q00 q03 q01 q04 q02 q05 x1 x2 x3) (k_ Bool.false) (br (laws_FnExactAddKnot_c42 q00 q03 q01 q04 q02 q05 x1 x2 x3) (k_ Bool.false) (grd (laws_FnExactAddKnot_c3 q00 q03 q01 q04 q02 q05 x1 x2 x3) (grd (laws_FnExactAddKnot_c18 q00 q03 q01 q04 q02 q05 x1 x2 x3) (grd (laws_FnExactAddKnot_c37 q00 q03 q01 q04 q02 q05 x1 x2 x3) (br (laws_FnExactAddKnot_c38 q00 q03 q01 q04 q02 q05 x1 x2 x3) (k_ Bool.false) (br (laws_FnExactAddKnot_c25 q00 q03 q01 q04 q02 q05 x1 x2 x3) (k_ Bool.false) (grd (laws_FnExactAddKnot_c39 q00 q03 q01 q04 q02 q05 x1 x2 x3) (br (laws_FnExactAddKnot_c41 q00 q03 q01 q04 q02 q05 x1 x2 x3) (k_ Bool.false) (br (laws_FnExactAddKnot_c42 q00 q03 q01 q04 q02 q05 x1 x2 x3) (k_ Bool.false) (k_ Bool.true))))))))))))))))))))))))))))))))))
noncomputable def z31 (q00 : Nat) (q03 : List Nat) (q01 : Nat) (q04 : List Nat) (q02 : Nat) (q05 : List Nat) (x1 : Nat) (x2 : Nat) (x3 : Nat) : Option (Bool) := z30 q00 q03 q01 q04 q02 q05 x1 x2 x3 (fun c0_ => some c0_)
theorem zch (q00 : Nat) (q03 : List Nat) (q01 : Nat) (q04 : List Nat) (q02 : Nat) (q05 : List Nat) (x1 : Nat) (x2 : Nat) (x3 : Nat) {R R' : Type} (o : Option R → Option R') (h0 : o none = none) (k_ : Bool → Option R) : z30 q00 q03 q01 q04 q02 q05 x1 x2 x3 (fun c0_ => o (k_ c0_)) = o (z30 q00 q03 q01 q04 q02 q05 x1 x2 x3 k_) := by
  unfold z30
  repeat (first | apply grd_out h0 | apply br_out | rfl | exact h0.symm)
noncomputable def laws_FnExactAddKnot_p (q00 : Nat) (q03 : List Nat) (q01 : Nat) (q04 : List Nat) (q02 : Nat) (q05 : List Nat) (x1 : Nat) (x2 : Nat) (x3 : Nat) : Bool := (z31 q00 q03 q01 q04 q02 q05 x1 x2 x3).isSome
noncomputable def laws_FnExactAddKnot_v0 (q00 : Nat) (q03 : List Nat) (q01 : Nat) (q04 : List Nat) (q02 : Nat) (q05 : List Nat) (x1 : Nat) (x2 : Nat) (x3 : Nat) : Bool := ((z31 q00 q03 q01 q04 q02 q05 x1 x2 x3).getD default)
theorem laws_FnExactAddKnot_of {q00 : Nat} {q03 : List Nat} {q01 : Nat} {q04 : List Nat} {q02 : Nat} {q05 : List Nat} {x1 : Nat} {x2 : Nat} {x3 : Nat} {r : Bool} (h : z31 q00 q03 q01 q04 q02 q05 x1 x2 x3 = some r) : laws_FnExactAddKnot_p q00 q03 q01 q04 q02 q05 x1 x2 x3 = true ∧ laws_FnExactAddKnot_v0 q00 q03 q01 q04 q02 q05 x1 x2 x3 = r := by
  unfold laws_FnExactAddKnot_p laws_FnExactAddKnot_v0
  rw [h]
  exact ⟨rfl, rfl⟩
end Go.Rf
