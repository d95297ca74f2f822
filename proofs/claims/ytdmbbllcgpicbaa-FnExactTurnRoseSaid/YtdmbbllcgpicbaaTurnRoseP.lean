import Derived.Test.YtdmbbllcgpicbaaB
set_option linter.unusedVariables false
set_option linter.unusedSimpArgs false
set_option maxRecDepth 100000
set_option maxHeartbeats 4000000
namespace Go.Rf
open Go
noncomputable def z5f {R : Type} (a : Nat) (b : Nat) (k_ : Bool → Option R) : Option R := (br (fcmp BinOp.neq FloatKind.f64 a a) (br (fcmp BinOp.neq FloatKind.f64 a a) (k_ (fcmp BinOp.neq FloatKind.f64 b b)) (k_ Bool.false)) (br (fcmp BinOp.neq FloatKind.f64 b b) (br (fcmp BinOp.neq FloatKind.f64 a a) (k_ (fcmp BinOp.neq FloatKind.f64 b b)) (k_ Bool.false)) (br (fcmp BinOp.eql FloatKind.f64 a 0) (br (fcmp BinOp.eql FloatKind.f64 b 0) (k_ (beqB (fcmp BinOp.gtr FloatKind.f64 (fop BinOp.quo FloatKind.f64 4607182418800017408 a) 0) (fcmp BinOp.gtr FloatKind.f64 (fop BinOp.quo FloatKind.f64 4607182418800017408 b) 0))) (k_ (fcmp BinOp.eql FloatKind.f64 a b))) (k_ (fcmp BinOp.eql FloatKind.f64 a b)))))
noncomputable def z5d (a : Nat) (b : Nat) : Option (Bool) := z5f a b (fun c0_ => some c0_)
theorem zb8 {R R' : Type} (o : Option R → Option R') (h0 : o none = none) (a : Nat) (b : Nat) (k_ : Bool → Option R) : z5f a b (fun c0_ => o (k_ c0_)) = o (z5f a b k_) := by
  unfold z5f
  repeat (first | refine grd_out h0 ?_ | refine br_out ?_ ?_ | rfl | exact h0.symm)
noncomputable def z8z (a : Nat) (b : Nat) : Bool := (z5d a b).isSome
noncomputable def z7s (a : Nat) (b : Nat) : Bool := ((z5d a b).getD default)
theorem zcl {a : Nat} {b : Nat} {r : Bool} (h : z5d a b = some r) : z8z a b = true ∧ z7s a b = r := by
  unfold z8z z7s
  rw [h]
  exact ⟨rfl, rfl⟩
noncomputable def z7w {R : Type} (n_ : Int) (low : Int) (q0r : Int) (k_ : Bool → Option R) : Option R := (br (leI low n_) (k_ (leI n_ q0r)) (k_ Bool.false))
noncomputable def z84 (n_ : Int) (low : Int) (q0r : Int) : Option (Bool) := z7w n_ low q0r (fun c0_ => some c0_)
theorem zcp {R R' : Type} (o : Option R → Option R') (h0 : o none = none) (n_ : Int) (low : Int) (q0r : Int) (k_ : Bool → Option R) : z7w n_ low q0r (fun c0_ => o (k_ c0_)) = o (z7w n_ low q0r k_) := by
  unfold z7w
  repeat (first | refine grd_out h0 ?_ | refine br_out ?_ ?_ | rfl | exact h0.symm)
noncomputable def z9w (n_ : Int) (low : Int) (q0r : Int) : Bool := (z84 n_ low q0r).isSome
noncomputable def z9u (n_ : Int) (low : Int) (q0r : Int) : Bool := ((z84 n_ low q0r).getD default)
theorem zda {n_ : Int} {low : Int} {q0r : Int} {r : Bool} (h : z84 n_ low q0r = some r) : z9w n_ low q0r = true ∧ z9u n_ low q0r = r := by
  unfold z9w z9u
  rw [h]
  exact ⟨rfl, rfl⟩
noncomputable def z6c {R : Type} (x : Nat) (k_ : Bool → Option R) : Option R := (k_ (fcmp BinOp.eql FloatKind.f32 (fop BinOp.sub FloatKind.f32 x x) 0))
noncomputable def z6o (x : Nat) : Option (Bool) := z6c x (fun c0_ => some c0_)
theorem zbd {R R' : Type} (o : Option R → Option R') (h0 : o none = none) (x : Nat) (k_ : Bool → Option R) : z6c x (fun c0_ => o (k_ c0_)) = o (z6c x k_) := by
  unfold z6c
  repeat (first | refine grd_out h0 ?_ | refine br_out ?_ ?_ | rfl | exact h0.symm)
noncomputable def z91 (x : Nat) : Bool := (z6o x).isSome
noncomputable def z7q (x : Nat) : Bool := ((z6o x).getD default)
theorem zcb {x : Nat} {r : Bool} (h : z6o x = some r) : z91 x = true ∧ z7q x = r := by
  unfold z91 z7q
  rw [h]
  exact ⟨rfl, rfl⟩
noncomputable def z6z {R : Type} (n_ : Int) (low : Int) (q0r : Int) (k_ : Bool → Option R) : Option R := (br (leI low n_) (k_ (leI n_ q0r)) (k_ Bool.false))
noncomputable def z72 (n_ : Int) (low : Int) (q0r : Int) : Option (Bool) := z6z n_ low q0r (fun c0_ => some c0_)
theorem zcg {R R' : Type} (o : Option R → Option R') (h0 : o none = none) (n_ : Int) (low : Int) (q0r : Int) (k_ : Bool → Option R) : z6z n_ low q0r (fun c0_ => o (k_ c0_)) = o (z6z n_ low q0r k_) := by
  unfold z6z
  repeat (first | refine grd_out h0 ?_ | refine br_out ?_ ?_ | rfl | exact h0.symm)
noncomputable def z9v (n_ : Int) (low : Int) (q0r : Int) : Bool := (z72 n_ low q0r).isSome
noncomputable def z9p (n_ : Int) (low : Int) (q0r : Int) : Bool := ((z72 n_ low q0r).getD default)
theorem zd4 {n_ : Int} {low : Int} {q0r : Int} {r : Bool} (h : z72 n_ low q0r = some r) : z9v n_ low q0r = true ∧ z9p n_ low q0r = r := by
  unfold z9v z9p
  rw [h]
  exact ⟨rfl, rfl⟩
noncomputable def z52 {R : Type} (a_n : Nat) (a : List Nat) (q0o : Int) (k_ : Int → Option R) : Option R := (br (ltI (subI IntKind.i64 q0o (Int.ofNat a_n)) 0) (k_ (Int.negSucc 0)) (k_ (subI IntKind.i64 q0o (Int.ofNat a_n))))
noncomputable def z51 (a_n : Nat) (a : List Nat) (q0o : Int) : Option (Int) := z52 a_n a q0o (fun c0_ => some c0_)
theorem zb1 {R R' : Type} (o : Option R → Option R') (h0 : o none = none) (a_n : Nat) (a : List Nat) (q0o : Int) (k_ : Int → Option R) : z52 a_n a q0o (fun c0_ => o (k_ c0_)) = o (z52 a_n a q0o k_) := by
  unfold z52
  repeat (first | refine grd_out h0 ?_ | refine br_out ?_ ?_ | rfl | exact h0.symm)
noncomputable def z5w (a_n : Nat) (a : List Nat) (q0o : Int) : Bool := (z51 a_n a q0o).isSome
noncomputable def z3n (a_n : Nat) (a : List Nat) (q0o : Int) : Int := ((z51 a_n a q0o).getD default)
theorem za0 {a_n : Nat} {a : List Nat} {q0o : Int} {r : Int} (h : z51 a_n a q0o = some r) : z5w a_n a q0o = true ∧ z3n a_n a q0o = r := by
  unfold z5w z3n
  rw [h]
  exact ⟨rfl, rfl⟩
noncomputable def z7d {R : Type} (x : Nat) (k_ : Bool → Option R) : Option R := (k_ (fcmp BinOp.eql FloatKind.f32 (fop BinOp.sub FloatKind.f32 x x) 0))
noncomputable def z7g (x : Nat) : Option (Bool) := z7d x (fun c0_ => some c0_)
theorem zbv {R R' : Type} (o : Option R → Option R') (h0 : o none = none) (x : Nat) (k_ : Bool → Option R) : z7d x (fun c0_ => o (k_ c0_)) = o (z7d x k_) := by
  unfold z7d
  repeat (first | refine grd_out h0 ?_ | refine br_out ?_ ?_ | rfl | exact h0.symm)
noncomputable def z9i (x : Nat) : Bool := (z7g x).isSome
noncomputable def z8v (x : Nat) : Bool := ((z7g x).getD default)
theorem zcr {x : Nat} {r : Bool} (h : z7g x = some r) : z9i x = true ∧ z8v x = r := by
  unfold z9i z8v
  rw [h]
  exact ⟨rfl, rfl⟩
noncomputable def z71 {R : Type} (q06 : Nat) (q0c : List Nat) (q07 : Nat) (q0f : List Nat) (q0o : Int) (k_ : Int → Option R) : Option R := (grd (z5w q06 (pF q0c 0 (muN q06 1)) q0o) (br (ltI (z3n q06 (pF q0c 0 (muN q06 1)) q0o) 0) (k_ (Int.negSucc 0)) (grd (z5w q07 (pF q0f 0 (muN q07 1)) (z3n q06 (pF q0c 0 (muN q06 1)) q0o)) (br (ltI (z3n q07 (pF q0f 0 (muN q07 1)) (z3n q06 (pF q0c 0 (muN q06 1)) q0o)) 0) (k_ (Int.negSucc 0)) (k_ (z3n q07 (pF q0f 0 (muN q07 1)) (z3n q06 (pF q0c 0 (muN q06 1)) q0o)))))))
noncomputable def z70 (q06 : Nat) (q0c : List Nat) (q07 : Nat) (q0f : List Nat) (q0o : Int) : Option (Int) := z71 q06 q0c q07 q0f q0o (fun c0_ => some c0_)
theorem zck {R R' : Type} (o : Option R → Option R') (h0 : o none = none) (q06 : Nat) (q0c : List Nat) (q07 : Nat) (q0f : List Nat) (q0o : Int) (k_ : Int → Option R) : z71 q06 q0c q07 q0f q0o (fun c0_ => o (k_ c0_)) = o (z71 q06 q0c q07 q0f q0o k_) := by
  unfold z71
  repeat (first | refine grd_out h0 ?_ | refine br_out ?_ ?_ | rfl | exact h0.symm)
noncomputable def z9d (q06 : Nat) (q0c : List Nat) (q07 : Nat) (q0f : List Nat) (q0o : Int) : Bool := (z70 q06 q0c q07 q0f q0o).isSome
noncomputable def z7u (q06 : Nat) (q0c : List Nat) (q07 : Nat) (q0f : List Nat) (q0o : Int) : Int := ((z70 q06 q0c q07 q0f q0o).getD default)
theorem zd3 {q06 : Nat} {q0c : List Nat} {q07 : Nat} {q0f : List Nat} {q0o : Int} {r : Int} (h : z70 q06 q0c q07 q0f q0o = some r) : z9d q06 q0c q07 q0f q0o = true ∧ z7u q06 q0c q07 q0f q0o = r := by
  unfold z9d z7u
  rw [h]
  exact ⟨rfl, rfl⟩
noncomputable def z5p {R : Type} (x : Nat) (k_ : Bool → Option R) : Option R := (grd (z91 x) (br (z7q x) (k_ (fcmp BinOp.geq FloatKind.f32 x 0)) (k_ Bool.false)))
noncomputable def z5n (x : Nat) : Option (Bool) := z5p x (fun c0_ => some c0_)
theorem zbt {R R' : Type} (o : Option R → Option R') (h0 : o none = none) (x : Nat) (k_ : Bool → Option R) : z5p x (fun c0_ => o (k_ c0_)) = o (z5p x k_) := by
  unfold z5p
  repeat (first | refine grd_out h0 ?_ | refine br_out ?_ ?_ | rfl | exact h0.symm)
noncomputable def z78 (x : Nat) : Bool := (z5n x).isSome
noncomputable def z6a (x : Nat) : Bool := ((z5n x).getD default)
theorem zac {x : Nat} {r : Bool} (h : z5n x = some r) : z78 x = true ∧ z6a x = r := by
  unfold z78 z6a
  rw [h]
  exact ⟨rfl, rfl⟩
noncomputable def z67 {R : Type} (x : Nat) (k_ : Bool → Option R) : Option R := (grd (z9i x) (br (z8v x) (k_ (fcmp BinOp.geq FloatKind.f32 x 0)) (k_ Bool.false)))
noncomputable def z65 (x : Nat) : Option (Bool) := z67 x (fun c0_ => some c0_)
theorem zc3 {R R' : Type} (o : Option R → Option R') (h0 : o none = none) (x : Nat) (k_ : Bool → Option R) : z67 x (fun c0_ => o (k_ c0_)) = o (z67 x k_) := by
  unfold z67
  repeat (first | refine grd_out h0 ?_ | refine br_out ?_ ?_ | rfl | exact h0.symm)
noncomputable def z9n (x : Nat) : Bool := (z65 x).isSome
noncomputable def z9h (x : Nat) : Bool := ((z65 x).getD default)
theorem zcy {x : Nat} {r : Bool} (h : z65 x = some r) : z9n x = true ∧ z9h x = r := by
  unfold z9n z9h
  rw [h]
  exact ⟨rfl, rfl⟩
noncomputable def z33 {R : Type} (an : Nat) (b0 : List Nat) (k : Int) (i : Int) (kn_ : Int → Int → Option R) (k0_ : Unit → Option R) (k1_ : Int → Int → Bool → Option R) : Option R := (br (ltI i (Int.ofNat an)) (grd (okIx i an) (br (fcmp BinOp.neq FloatKind.f32 (gF b0 (ixO 0 i 1)) (fOI FloatKind.f32 k)) (k0_ ()) (kn_ (addI IntKind.i64 k 1) (addI IntKind.i64 i 1)))) (k1_ k i (ltI i (Int.ofNat an))))
theorem za3 {R R' : Type} (o : Option R → Option R') (h0 : o none = none) (an : Nat) (b0 : List Nat) (k : Int) (i : Int) (kn_ : Int → Int → Option R) (k0_ : Unit → Option R) (k1_ : Int → Int → Bool → Option R) : z33 an b0 k i (fun k' i' => o (kn_ k' i')) (fun _ => o (k0_ ())) (fun c0_ c1_ c2_ => o (k1_ c0_ c1_ c2_)) = o (z33 an b0 k i kn_ k0_ k1_) := by
  unfold z33
  repeat (first | refine grd_out h0 ?_ | refine br_out ?_ ?_ | rfl | exact h0.symm)
noncomputable def z2g (an : Nat) (b0 : List Nat) : Nat → Int → Int → Option ((Unit) ⊕ (Int × Int × Bool))
  | 0, _, _ => none
  | n + 1, k, i => z33 an b0  k i  (fun k' i' => z2g an b0 n k' i') (fun _ => some (Sum.inl ())) (fun c0_ c1_ c2_ => some (Sum.inr (c0_, c1_, c2_)))
theorem z8p (an : Nat) (b0 : List Nat) (n : Nat) (k : Int) (i : Int) : z2g an b0 (n + 1) k i = z33 an b0  k i  (fun k' i' => z2g an b0 n k' i') (fun _ => some (Sum.inl ())) (fun c0_ c1_ c2_ => some (Sum.inr (c0_, c1_, c2_))) := rfl
noncomputable def z5g (an : Nat) (b0 : List Nat) (k : Int) (i : Int) : Bool := (z2g an b0 big k i).isSome
noncomputable def z57 (an : Nat) (b0 : List Nat) (k : Int) (i : Int) : Bool := oL (z2g an b0 big k i)
noncomputable def z4q (an : Nat) (b0 : List Nat) (k : Int) (i : Int) : Int := ((tR (z2g an b0 big k i)).getD default).1
noncomputable def z61 (an : Nat) (b0 : List Nat) (k : Int) (i : Int) : Int := ((tR (z2g an b0 big k i)).getD default).2.1
noncomputable def z60 (an : Nat) (b0 : List Nat) (k : Int) (i : Int) : Bool := ((tR (z2g an b0 big k i)).getD default).2.2
theorem zae {an : Nat} {b0 : List Nat} {k : Int} {i : Int} {m : Nat} {r : Int × Int × Bool} (hm : m = big) (h : z2g an b0 m k i = some (Sum.inr r)) : z5g an b0 k i = true ∧ z57 an b0 k i = false ∧ z4q an b0 k i = r.1 ∧ z61 an b0 k i = r.2.1 ∧ z60 an b0 k i = r.2.2 := by
  subst hm
  unfold z5g z57 z4q z61 z60
  rw [h]
  exact ⟨rfl, rfl, rfl, rfl, rfl⟩
noncomputable def z3g {R : Type} (an : Nat) (q0s : Nat) (b0 : List Nat) (i : Int) (b1 : List Nat) (kn_ : Int → (List Nat) → Option R) (k0_ : Int → Bool → (List Nat) → Option R) : Option R := (br (ltI i (Int.ofNat an)) (grd (okIx i an) (grd (okIx i q0s) (kn_ (addI IntKind.i64 i 1) (sF b1 (ixO 0 i 1) (gF b0 (ixO 0 i 1)))))) (k0_ i (ltI i (Int.ofNat an)) b1))
theorem zaa {R R' : Type} (o : Option R → Option R') (h0 : o none = none) (an : Nat) (q0s : Nat) (b0 : List Nat) (i : Int) (b1 : List Nat) (kn_ : Int → (List Nat) → Option R) (k0_ : Int → Bool → (List Nat) → Option R) : z3g an q0s b0 i b1 (fun i' b1' => o (kn_ i' b1')) (fun c0_ c1_ c2_ => o (k0_ c0_ c1_ c2_)) = o (z3g an q0s b0 i b1 kn_ k0_) := by
  unfold z3g
  repeat (first | refine grd_out h0 ?_ | refine br_out ?_ ?_ | rfl | exact h0.symm)
noncomputable def z2t (an : Nat) (q0s : Nat) (b0 : List Nat) : Nat → Int → (List Nat) → Option ((Int × Bool × (List Nat)))
  | 0, _, _ => none
  | n + 1, i, b1 => z3g an q0s b0  i b1  (fun i' b1' => z2t an q0s b0 n i' b1') (fun c0_ c1_ c2_ => some (c0_, c1_, c2_))
theorem z9m (an : Nat) (q0s : Nat) (b0 : List Nat) (n : Nat) (i : Int) (b1 : List Nat) : z2t an q0s b0 (n + 1) i b1 = z3g an q0s b0  i b1  (fun i' b1' => z2t an q0s b0 n i' b1') (fun c0_ c1_ c2_ => some (c0_, c1_, c2_)) := rfl
noncomputable def z4s (an : Nat) (q0s : Nat) (b0 : List Nat) (i : Int) (b1 : List Nat) : Bool := (z2t an q0s b0 big i b1).isSome
noncomputable def z6q (an : Nat) (q0s : Nat) (b0 : List Nat) (i : Int) (b1 : List Nat) : Int := ((z2t an q0s b0 big i b1).getD default).1
noncomputable def z6s (an : Nat) (q0s : Nat) (b0 : List Nat) (i : Int) (b1 : List Nat) : Bool := ((z2t an q0s b0 big i b1).getD default).2.1
noncomputable def z4b (an : Nat) (q0s : Nat) (b0 : List Nat) (i : Int) (b1 : List Nat) : List Nat := ((z2t an q0s b0 big i b1).getD default).2.2
theorem zat {an : Nat} {q0s : Nat} {b0 : List Nat} {i : Int} {b1 : List Nat} {m : Nat} {r : Int × Bool × (List Nat)} (hm : m = big) (h : z2t an q0s b0 m i b1 = some r) : z4s an q0s b0 i b1 = true ∧ z6q an q0s b0 i b1 = r.1 ∧ z6s an q0s b0 i b1 = r.2.1 ∧ z4b an q0s b0 i b1 = r.2.2 := by
  subst hm
  unfold z4s z6q z6s z4b
  rw [h]
  exact ⟨rfl, rfl, rfl, rfl⟩
noncomputable def z4f {R : Type} (a_n : Nat) (a : List Nat) (k : Int) (k_ : Int → Option R) : Option R := (grd (z5g a_n a k 0) (br (z57 a_n a k 0) (k_ (Int.negSucc 0)) (k_ (z4q a_n a k 0))))
noncomputable def z4e (a_n : Nat) (a : List Nat) (k : Int) : Option (Int) := z4f a_n a k (fun c0_ => some c0_)
theorem zag {R R' : Type} (o : Option R → Option R') (h0 : o none = none) (a_n : Nat) (a : List Nat) (k : Int) (k_ : Int → Option R) : z4f a_n a k (fun c0_ => o (k_ c0_)) = o (z4f a_n a k k_) := by
  unfold z4f
  repeat (first | refine grd_out h0 ?_ | refine br_out ?_ ?_ | rfl | exact h0.symm)
noncomputable def z5a (a_n : Nat) (a : List Nat) (k : Int) : Bool := (z4e a_n a k).isSome
noncomputable def z3h (a_n : Nat) (a : List Nat) (k : Int) : Int := ((z4e a_n a k).getD default)
theorem z9x {a_n : Nat} {a : List Nat} {k : Int} {r : Int} (h : z4e a_n a k = some r) : z5a a_n a k = true ∧ z3h a_n a k = r := by
  unfold z5a z3h
  rw [h]
  exact ⟨rfl, rfl⟩
noncomputable def z54 {R : Type} (a_n : Nat) (a : List Nat) (k_ : Nat → (List Nat) → Option R) : Option R := (grd (okMk (Int.ofNat a_n) (Int.ofNat a_n) 4) (grd (z4s a_n (toN (Int.ofNat a_n)) a 0 (rF (muN (toN (Int.ofNat a_n)) 1))) (k_ (toN (Int.ofNat a_n)) (z4b a_n (toN (Int.ofNat a_n)) a 0 (rF (muN (toN (Int.ofNat a_n)) 1))))))
noncomputable def z4d (a_n : Nat) (a : List Nat) : Option (Nat × (List Nat)) := z54 a_n a (fun c0_ c1_ => some (c0_, c1_))
theorem zb6 {R R' : Type} (o : Option R → Option R') (h0 : o none = none) (a_n : Nat) (a : List Nat) (k_ : Nat → (List Nat) → Option R) : z54 a_n a (fun c0_ c1_ => o (k_ c0_ c1_)) = o (z54 a_n a k_) := by
  unfold z54
  repeat (first | refine grd_out h0 ?_ | refine br_out ?_ ?_ | rfl | exact h0.symm)
noncomputable def z5v (a_n : Nat) (a : List Nat) : Bool := (z4d a_n a).isSome
noncomputable def z5j (a_n : Nat) (a : List Nat) : Nat := ((z4d a_n a).getD default).1
noncomputable def z5l (a_n : Nat) (a : List Nat) : List Nat := ((z4d a_n a).getD default).2
theorem za1 {a_n : Nat} {a : List Nat} {r : Nat × (List Nat)} (h : z4d a_n a = some r) : z5v a_n a = true ∧ z5j a_n a = r.1 ∧ z5l a_n a = r.2 := by
  unfold z5v z5j z5l
  rw [h]
  exact ⟨rfl, rfl, rfl⟩
noncomputable def z50 {R : Type} (x : Nat) (k_ : Bool → Option R) : Option R := (grd (z9n x) (k_ (bnot (z9h x))))
noncomputable def z53 (x : Nat) : Option (Bool) := z50 x (fun c0_ => some c0_)
theorem zb0 {R R' : Type} (o : Option R → Option R') (h0 : o none = none) (x : Nat) (k_ : Bool → Option R) : z50 x (fun c0_ => o (k_ c0_)) = o (z50 x k_) := by
  unfold z50
  repeat (first | refine grd_out h0 ?_ | refine br_out ?_ ?_ | rfl | exact h0.symm)
noncomputable def z7t (x : Nat) : Bool := (z53 x).isSome
noncomputable def z76 (x : Nat) : Bool := ((z53 x).getD default)
theorem zc0 {x : Nat} {r : Bool} (h : z53 x = some r) : z7t x = true ∧ z76 x = r := by
  unfold z7t z76
  rw [h]
  exact ⟨rfl, rfl⟩
noncomputable def z3f {R : Type} (an : Nat) (bn : Nat) (b0 : List Nat) (b1 : List Nat) (i : Int) (kn_ : Int → Option R) (k0_ : Unit → Option R) (k1_ : Int → Bool → Option R) : Option R := (br (ltI i (Int.ofNat an)) (grd (okIx i an) (grd (okIx i bn) (grd (z8z (fcvV FloatKind.f32 FloatKind.f64 (gF b0 (ixO 0 i 1))) (fcvV FloatKind.f32 FloatKind.f64 (gF b1 (ixO 0 i 1)))) (br (bnot (z7s (fcvV FloatKind.f32 FloatKind.f64 (gF b0 (ixO 0 i 1))) (fcvV FloatKind.f32 FloatKind.f64 (gF b1 (ixO 0 i 1))))) (k0_ ()) (kn_ (addI IntKind.i64 i 1)))))) (k1_ i (ltI i (Int.ofNat an))))
theorem zaf {R R' : Type} (o : Option R → Option R') (h0 : o none = none) (an : Nat) (bn : Nat) (b0 : List Nat) (b1 : List Nat) (i : Int) (kn_ : Int → Option R) (k0_ : Unit → Option R) (k1_ : Int → Bool → Option R) : z3f an bn b0 b1 i (fun i' => o (kn_ i')) (fun _ => o (k0_ ())) (fun c0_ c1_ => o (k1_ c0_ c1_)) = o (z3f an bn b0 b1 i kn_ k0_ k1_) := by
  unfold z3f
  repeat (first | refine grd_out h0 ?_ | refine br_out ?_ ?_ | rfl | exact h0.symm)
noncomputable def z2u (an : Nat) (bn : Nat) (b0 : List Nat) (b1 : List Nat) : Nat → Int → Option ((Unit) ⊕ (Int × Bool))
  | 0, _ => none
  | n + 1, i => z3f an bn b0 b1  i  (fun i' => z2u an bn b0 b1 n i') (fun _ => some (Sum.inl ())) (fun c0_ c1_ => some (Sum.inr (c0_, c1_)))
theorem z9l (an : Nat) (bn : Nat) (b0 : List Nat) (b1 : List Nat) (n : Nat) (i : Int) : z2u an bn b0 b1 (n + 1) i = z3f an bn b0 b1  i  (fun i' => z2u an bn b0 b1 n i') (fun _ => some (Sum.inl ())) (fun c0_ c1_ => some (Sum.inr (c0_, c1_))) := rfl
noncomputable def z62 (an : Nat) (bn : Nat) (b0 : List Nat) (b1 : List Nat) (i : Int) : Bool := (z2u an bn b0 b1 big i).isSome
noncomputable def z5s (an : Nat) (bn : Nat) (b0 : List Nat) (b1 : List Nat) (i : Int) : Bool := oL (z2u an bn b0 b1 big i)
noncomputable def z6p (an : Nat) (bn : Nat) (b0 : List Nat) (b1 : List Nat) (i : Int) : Int := ((tR (z2u an bn b0 b1 big i)).getD default).1
noncomputable def z6x (an : Nat) (bn : Nat) (b0 : List Nat) (b1 : List Nat) (i : Int) : Bool := ((tR (z2u an bn b0 b1 big i)).getD default).2
theorem zau {an : Nat} {bn : Nat} {b0 : List Nat} {b1 : List Nat} {i : Int} {m : Nat} {r : Int × Bool} (hm : m = big) (h : z2u an bn b0 b1 m i = some (Sum.inr r)) : z62 an bn b0 b1 i = true ∧ z5s an bn b0 b1 i = false ∧ z6p an bn b0 b1 i = r.1 ∧ z6x an bn b0 b1 i = r.2 := by
  subst hm
  unfold z62 z5s z6p z6x
  rw [h]
  exact ⟨rfl, rfl, rfl, rfl⟩
noncomputable def z56 {R : Type} (a_n : Nat) (a : List Nat) (b_n : Nat) (b : List Nat) (k_ : Bool → Option R) : Option R := (br (neI (Int.ofNat a_n) (Int.ofNat b_n)) (k_ Bool.false) (grd (z62 a_n b_n a b 0) (br (z5s a_n b_n a b 0) (k_ Bool.false) (k_ Bool.true))))
noncomputable def z55 (a_n : Nat) (a : List Nat) (b_n : Nat) (b : List Nat) : Option (Bool) := z56 a_n a b_n b (fun c0_ => some c0_)
theorem zax {R R' : Type} (o : Option R → Option R') (h0 : o none = none) (a_n : Nat) (a : List Nat) (b_n : Nat) (b : List Nat) (k_ : Bool → Option R) : z56 a_n a b_n b (fun c0_ => o (k_ c0_)) = o (z56 a_n a b_n b k_) := by
  unfold z56
  repeat (first | refine grd_out h0 ?_ | refine br_out ?_ ?_ | rfl | exact h0.symm)
noncomputable def z5x (a_n : Nat) (a : List Nat) (b_n : Nat) (b : List Nat) : Bool := (z55 a_n a b_n b).isSome
noncomputable def z5k (a_n : Nat) (a : List Nat) (b_n : Nat) (b : List Nat) : Bool := ((z55 a_n a b_n b).getD default)
theorem z9z {a_n : Nat} {a : List Nat} {b_n : Nat} {b : List Nat} {r : Bool} (h : z55 a_n a b_n b = some r) : z5x a_n a b_n b = true ∧ z5k a_n a b_n b = r := by
  unfold z5x z5k
  rw [h]
  exact ⟨rfl, rfl⟩
noncomputable def z74 {R : Type} (q06 : Nat) (q0c : List Nat) (q07 : Nat) (q0f : List Nat) (k_ : Nat → Nat → (List Nat) → (List Nat) → Option R) : Option R := (grd (z5v q06 (pF q0c 0 (muN q06 1))) (grd (z5v q07 (pF q0f 0 (muN q07 1))) (k_ (z5j q06 (pF q0c 0 (muN q06 1))) (z5j q07 (pF q0f 0 (muN q07 1))) (z5l q06 (pF q0c 0 (muN q06 1))) (z5l q07 (pF q0f 0 (muN q07 1))))))
noncomputable def z4h (q06 : Nat) (q0c : List Nat) (q07 : Nat) (q0f : List Nat) : Option (Nat × Nat × (List Nat) × (List Nat)) := z74 q06 q0c q07 q0f (fun c0_ c1_ c2_ c3_ => some (c0_, c1_, c2_, c3_))
theorem zce {R R' : Type} (o : Option R → Option R') (h0 : o none = none) (q06 : Nat) (q0c : List Nat) (q07 : Nat) (q0f : List Nat) (k_ : Nat → Nat → (List Nat) → (List Nat) → Option R) : z74 q06 q0c q07 q0f (fun c0_ c1_ c2_ c3_ => o (k_ c0_ c1_ c2_ c3_)) = o (z74 q06 q0c q07 q0f k_) := by
  unfold z74
  repeat (first | refine grd_out h0 ?_ | refine br_out ?_ ?_ | rfl | exact h0.symm)
noncomputable def z9b (q06 : Nat) (q0c : List Nat) (q07 : Nat) (q0f : List Nat) : Bool := (z4h q06 q0c q07 q0f).isSome
noncomputable def z82 (q06 : Nat) (q0c : List Nat) (q07 : Nat) (q0f : List Nat) : Nat := ((z4h q06 q0c q07 q0f).getD default).1
noncomputable def z80 (q06 : Nat) (q0c : List Nat) (q07 : Nat) (q0f : List Nat) : Nat := ((z4h q06 q0c q07 q0f).getD default).2.1
noncomputable def z88 (q06 : Nat) (q0c : List Nat) (q07 : Nat) (q0f : List Nat) : List Nat := ((z4h q06 q0c q07 q0f).getD default).2.2.1
noncomputable def z7v (q06 : Nat) (q0c : List Nat) (q07 : Nat) (q0f : List Nat) : List Nat := ((z4h q06 q0c q07 q0f).getD default).2.2.2
theorem zd5 {q06 : Nat} {q0c : List Nat} {q07 : Nat} {q0f : List Nat} {r : Nat × Nat × (List Nat) × (List Nat)} (h : z4h q06 q0c q07 q0f = some r) : z9b q06 q0c q07 q0f = true ∧ z82 q06 q0c q07 q0f = r.1 ∧ z80 q06 q0c q07 q0f = r.2.1 ∧ z88 q06 q0c q07 q0f = r.2.2.1 ∧ z7v q06 q0c q07 q0f = r.2.2.2 := by
  unfold z9b z82 z80 z88 z7v
  rw [h]
  exact ⟨rfl, rfl, rfl, rfl, rfl⟩
noncomputable def z5o {R : Type} (q06 : Nat) (q0c : List Nat) (q07 : Nat) (q0f : List Nat) (k : Int) (k_ : Int → Option R) : Option R := (grd (z5a q06 (pF q0c 0 (muN q06 1)) k) (br (ltI (z3h q06 (pF q0c 0 (muN q06 1)) k) 0) (k_ (Int.negSucc 0)) (grd (z5a q07 (pF q0f 0 (muN q07 1)) (z3h q06 (pF q0c 0 (muN q06 1)) k)) (br (ltI (z3h q07 (pF q0f 0 (muN q07 1)) (z3h q06 (pF q0c 0 (muN q06 1)) k)) 0) (k_ (Int.negSucc 0)) (k_ (z3h q07 (pF q0f 0 (muN q07 1)) (z3h q06 (pF q0c 0 (muN q06 1)) k)))))))
noncomputable def z5m (q06 : Nat) (q0c : List Nat) (q07 : Nat) (q0f : List Nat) (k : Int) : Option (Int) := z5o q06 q0c q07 q0f k (fun c0_ => some c0_)
theorem zbn {R R' : Type} (o : Option R → Option R') (h0 : o none = none) (q06 : Nat) (q0c : List Nat) (q07 : Nat) (q0f : List Nat) (k : Int) (k_ : Int → Option R) : z5o q06 q0c q07 q0f k (fun c0_ => o (k_ c0_)) = o (z5o q06 q0c q07 q0f k k_) := by
  unfold z5o
  repeat (first | refine grd_out h0 ?_ | refine br_out ?_ ?_ | rfl | exact h0.symm)
noncomputable def z9j (q06 : Nat) (q0c : List Nat) (q07 : Nat) (q0f : List Nat) (k : Int) : Bool := (z5m q06 q0c q07 q0f k).isSome
noncomputable def z8r (q06 : Nat) (q0c : List Nat) (q07 : Nat) (q0f : List Nat) (k : Int) : Int := ((z5m q06 q0c q07 q0f k).getD default)
theorem zct {q06 : Nat} {q0c : List Nat} {q07 : Nat} {q0f : List Nat} {k : Int} {r : Int} (h : z5m q06 q0c q07 q0f k = some r) : z9j q06 q0c q07 q0f k = true ∧ z8r q06 q0c q07 q0f k = r := by
  unfold z9j z8r
  rw [h]
  exact ⟨rfl, rfl⟩
noncomputable def z3y {R : Type} (n_ : Int) (b0 : List Nat) (b1 : List Nat) (q09 : Nat) (q08 : Nat) (k : Int) (kn_ : Int → Option R) (k0_ : Unit → Option R) (k1_ : Int → Bool → Option R) : Option R := (br (ltI k n_) (grd (okIx k q09) (grd (z78 (gF b0 (ixO 0 k 1))) (br (bnot (z6a (gF b0 (ixO 0 k 1)))) (k0_ ()) (grd (okIx k q08) (grd (z78 (gF b1 (ixO 0 k 1))) (br (bnot (z6a (gF b1 (ixO 0 k 1)))) (k0_ ()) (kn_ (addI IntKind.i64 k 1)))))))) (k1_ k (ltI k n_)))
theorem zb5 {R R' : Type} (o : Option R → Option R') (h0 : o none = none) (n_ : Int) (b0 : List Nat) (b1 : List Nat) (q09 : Nat) (q08 : Nat) (k : Int) (kn_ : Int → Option R) (k0_ : Unit → Option R) (k1_ : Int → Bool → Option R) : z3y n_ b0 b1 q09 q08 k (fun k' => o (kn_ k')) (fun _ => o (k0_ ())) (fun c0_ c1_ => o (k1_ c0_ c1_)) = o (z3y n_ b0 b1 q09 q08 k kn_ k0_ k1_) := by
  unfold z3y
  repeat (first | refine grd_out h0 ?_ | refine br_out ?_ ?_ | rfl | exact h0.symm)
noncomputable def z2w (n_ : Int) (b0 : List Nat) (b1 : List Nat) (q09 : Nat) (q08 : Nat) : Nat → Int → Option ((Unit) ⊕ (Int × Bool))
  | 0, _ => none
  | n + 1, k => z3y n_ b0 b1 q09 q08  k  (fun k' => z2w n_ b0 b1 q09 q08 n k') (fun _ => some (Sum.inl ())) (fun c0_ c1_ => some (Sum.inr (c0_, c1_)))
theorem z9s (n_ : Int) (b0 : List Nat) (b1 : List Nat) (q09 : Nat) (q08 : Nat) (n : Nat) (k : Int) : z2w n_ b0 b1 q09 q08 (n + 1) k = z3y n_ b0 b1 q09 q08  k  (fun k' => z2w n_ b0 b1 q09 q08 n k') (fun _ => some (Sum.inl ())) (fun c0_ c1_ => some (Sum.inr (c0_, c1_))) := rfl
noncomputable def z47 (n_ : Int) (b0 : List Nat) (b1 : List Nat) (q09 : Nat) (q08 : Nat) (k : Int) : Bool := (z2w n_ b0 b1 q09 q08 big k).isSome
noncomputable def z44 (n_ : Int) (b0 : List Nat) (b1 : List Nat) (q09 : Nat) (q08 : Nat) (k : Int) : Bool := oL (z2w n_ b0 b1 q09 q08 big k)
noncomputable def z8x (n_ : Int) (b0 : List Nat) (b1 : List Nat) (q09 : Nat) (q08 : Nat) (k : Int) : Int := ((tR (z2w n_ b0 b1 q09 q08 big k)).getD default).1
noncomputable def z8t (n_ : Int) (b0 : List Nat) (b1 : List Nat) (q09 : Nat) (q08 : Nat) (k : Int) : Bool := ((tR (z2w n_ b0 b1 q09 q08 big k)).getD default).2
theorem zbq {n_ : Int} {b0 : List Nat} {b1 : List Nat} {q09 : Nat} {q08 : Nat} {k : Int} {m : Nat} {r : Unit} (hm : m = big) (h : z2w n_ b0 b1 q09 q08 m k = some (Sum.inl r)) : z47 n_ b0 b1 q09 q08 k = true ∧ z44 n_ b0 b1 q09 q08 k = true := by
  subst hm
  unfold z47 z44
  rw [h]
  exact ⟨rfl, rfl⟩
theorem zbo {n_ : Int} {b0 : List Nat} {b1 : List Nat} {q09 : Nat} {q08 : Nat} {k : Int} {m : Nat} {r : Int × Bool} (hm : m = big) (h : z2w n_ b0 b1 q09 q08 m k = some (Sum.inr r)) : z47 n_ b0 b1 q09 q08 k = true ∧ z44 n_ b0 b1 q09 q08 k = false ∧ z8x n_ b0 b1 q09 q08 k = r.1 ∧ z8t n_ b0 b1 q09 q08 k = r.2 := by
  subst hm
  unfold z47 z44 z8x z8t
  rw [h]
  exact ⟨rfl, rfl, rfl, rfl⟩
noncomputable def z75 {R : Type} (q06 : Nat) (q0c : List Nat) (q07 : Nat) (q0f : List Nat) (q0k : Nat) (q0q : List Nat) (q0l : Nat) (q0p : List Nat) (k_ : Bool → Option R) : Option R := (grd (z5x q06 (pF q0c 0 (muN q06 1)) q0k (pF q0q 0 (muN q0k 1))) (br (bnot (z5k q06 (pF q0c 0 (muN q06 1)) q0k (pF q0q 0 (muN q0k 1)))) (k_ Bool.false) (grd (z5x q07 (pF q0f 0 (muN q07 1)) q0l (pF q0p 0 (muN q0l 1))) (br (bnot (z5k q07 (pF q0f 0 (muN q07 1)) q0l (pF q0p 0 (muN q0l 1)))) (k_ Bool.false) (k_ Bool.true)))))
noncomputable def z6y (q06 : Nat) (q0c : List Nat) (q07 : Nat) (q0f : List Nat) (q0k : Nat) (q0q : List Nat) (q0l : Nat) (q0p : List Nat) : Option (Bool) := z75 q06 q0c q07 q0f q0k q0q q0l q0p (fun c0_ => some c0_)
theorem zcd {R R' : Type} (o : Option R → Option R') (h0 : o none = none) (q06 : Nat) (q0c : List Nat) (q07 : Nat) (q0f : List Nat) (q0k : Nat) (q0q : List Nat) (q0l : Nat) (q0p : List Nat) (k_ : Bool → Option R) : z75 q06 q0c q07 q0f q0k q0q q0l q0p (fun c0_ => o (k_ c0_)) = o (z75 q06 q0c q07 q0f q0k q0q q0l q0p k_) := by
  unfold z75
  repeat (first | refine grd_out h0 ?_ | refine br_out ?_ ?_ | rfl | exact h0.symm)
noncomputable def z73 (q06 : Nat) (q0c : List Nat) (q07 : Nat) (q0f : List Nat) (q0k : Nat) (q0q : List Nat) (q0l : Nat) (q0p : List Nat) : Bool := (z6y q06 q0c q07 q0f q0k q0q q0l q0p).isSome
noncomputable def z66 (q06 : Nat) (q0c : List Nat) (q07 : Nat) (q0f : List Nat) (q0k : Nat) (q0q : List Nat) (q0l : Nat) (q0p : List Nat) : Bool := ((z6y q06 q0c q07 q0f q0k q0q q0l q0p).getD default)
theorem zay {q06 : Nat} {q0c : List Nat} {q07 : Nat} {q0f : List Nat} {q0k : Nat} {q0q : List Nat} {q0l : Nat} {q0p : List Nat} {r : Bool} (h : z6y q06 q0c q07 q0f q0k q0q q0l q0p = some r) : z73 q06 q0c q07 q0f q0k q0q q0l q0p = true ∧ z66 q06 q0c q07 q0f q0k q0q q0l q0p = r := by
  unfold z73 z66
  rw [h]
  exact ⟨rfl, rfl⟩
noncomputable def z63 {R : Type} (q04 : Nat) (q0a : List Nat) (q05 : Nat) (q0b : List Nat) (k_ : Bool → Option R) : Option R := (br (ltI (Int.ofNat q04) 1) (k_ Bool.false) (br (ltI 16 (Int.ofNat q04)) (k_ Bool.false) (br (neI (Int.ofNat q05) (Int.ofNat q04)) (k_ Bool.false) (grd (z47 (Int.ofNat q04) q0a q0b q04 q05 0) (br (z44 (Int.ofNat q04) q0a q0b q04 q05 0) (k_ Bool.false) (k_ Bool.true))))))
noncomputable def z64 (q04 : Nat) (q0a : List Nat) (q05 : Nat) (q0b : List Nat) : Option (Bool) := z63 q04 q0a q05 q0b (fun c0_ => some c0_)
theorem zby {R R' : Type} (o : Option R → Option R') (h0 : o none = none) (q04 : Nat) (q0a : List Nat) (q05 : Nat) (q0b : List Nat) (k_ : Bool → Option R) : z63 q04 q0a q05 q0b (fun c0_ => o (k_ c0_)) = o (z63 q04 q0a q05 q0b k_) := by
  unfold z63
  repeat (first | refine grd_out h0 ?_ | refine br_out ?_ ?_ | rfl | exact h0.symm)
noncomputable def z9o (q04 : Nat) (q0a : List Nat) (q05 : Nat) (q0b : List Nat) : Bool := (z64 q04 q0a q05 q0b).isSome
noncomputable def z9f (q04 : Nat) (q0a : List Nat) (q05 : Nat) (q0b : List Nat) : Bool := ((z64 q04 q0a q05 q0b).getD default)
theorem zcv {q04 : Nat} {q0a : List Nat} {q05 : Nat} {q0b : List Nat} {r : Bool} (h : z64 q04 q0a q05 q0b = some r) : z9o q04 q0a q05 q0b = true ∧ z9f q04 q0a q05 q0b = r := by
  unfold z9o z9f
  rw [h]
  exact ⟨rfl, rfl⟩
noncomputable def z2c {R : Type} (sn : Nat) (t7 : Int) (b0 : List Nat) (t8 : Int) (kn_ : Int → Option R) (k0_ : Int → Option R) (k1_ : Int → Bool → Option R) : Option R := (br (ltI t8 t7) (grd (okIx t8 sn) (grd (z7t (gF b0 (ixO 0 t8 1))) (br (z76 (gF b0 (ixO 0 t8 1))) (k0_ t8) (kn_ (addI IntKind.i64 t8 1))))) (k1_ t8 (ltI t8 t7)))
theorem z79 {R R' : Type} (o : Option R → Option R') (h0 : o none = none) (sn : Nat) (t7 : Int) (b0 : List Nat) (t8 : Int) (kn_ : Int → Option R) (k0_ : Int → Option R) (k1_ : Int → Bool → Option R) : z2c sn t7 b0 t8 (fun t8' => o (kn_ t8')) (fun c0_ => o (k0_ c0_)) (fun c0_ c1_ => o (k1_ c0_ c1_)) = o (z2c sn t7 b0 t8 kn_ k0_ k1_) := by
  unfold z2c
  repeat (first | refine grd_out h0 ?_ | refine br_out ?_ ?_ | rfl | exact h0.symm)
noncomputable def z12 (sn : Nat) (t7 : Int) (b0 : List Nat) : Nat → Int → Option ((Int) ⊕ (Int × Bool))
  | 0, _ => none
  | n + 1, t8 => z2c sn t7 b0  t8  (fun t8' => z12 sn t7 b0 n t8') (fun c0_ => some (Sum.inl c0_)) (fun c0_ c1_ => some (Sum.inr (c0_, c1_)))
theorem z4c (sn : Nat) (t7 : Int) (b0 : List Nat) (n : Nat) (t8 : Int) : z12 sn t7 b0 (n + 1) t8 = z2c sn t7 b0  t8  (fun t8' => z12 sn t7 b0 n t8') (fun c0_ => some (Sum.inl c0_)) (fun c0_ c1_ => some (Sum.inr (c0_, c1_))) := rfl
noncomputable def z2q (sn : Nat) (t7 : Int) (b0 : List Nat) (t8 : Int) : Bool := (z12 sn t7 b0 big t8).isSome
noncomputable def z2n (sn : Nat) (t7 : Int) (b0 : List Nat) (t8 : Int) : Bool := oL (z12 sn t7 b0 big t8)
noncomputable def z34 (sn : Nat) (t7 : Int) (b0 : List Nat) (t8 : Int) : Int := ((tL (z12 sn t7 b0 big t8)).getD default)
noncomputable def z3p (sn : Nat) (t7 : Int) (b0 : List Nat) (t8 : Int) : Int := ((tR (z12 sn t7 b0 big t8)).getD default).1
noncomputable def z3r (sn : Nat) (t7 : Int) (b0 : List Nat) (t8 : Int) : Bool := ((tR (z12 sn t7 b0 big t8)).getD default).2
theorem z7p {sn : Nat} {t7 : Int} {b0 : List Nat} {t8 : Int} {m : Nat} {r : Int} (hm : m = big) (h : z12 sn t7 b0 m t8 = some (Sum.inl r)) : z2q sn t7 b0 t8 = true ∧ z2n sn t7 b0 t8 = true ∧ z34 sn t7 b0 t8 = r := by
  subst hm
  unfold z2q z2n z34
  rw [h]
  exact ⟨rfl, rfl, rfl⟩
theorem z7o {sn : Nat} {t7 : Int} {b0 : List Nat} {t8 : Int} {m : Nat} {r : Int × Bool} (hm : m = big) (h : z12 sn t7 b0 m t8 = some (Sum.inr r)) : z2q sn t7 b0 t8 = true ∧ z2n sn t7 b0 t8 = false ∧ z3p sn t7 b0 t8 = r.1 ∧ z3r sn t7 b0 t8 = r.2 := by
  subst hm
  unfold z2q z2n z3p z3r
  rw [h]
  exact ⟨rfl, rfl, rfl, rfl⟩
noncomputable def z2s {R : Type} (s_n : Nat) (s : List Nat) (k_ : Int → Option R) : Option R := (grd (z2q s_n (Int.ofNat s_n) s 0) (br (z2n s_n (Int.ofNat s_n) s 0) (k_ (z34 s_n (Int.ofNat s_n) s 0)) (k_ (Int.negSucc 0))))
noncomputable def z2r (s_n : Nat) (s : List Nat) : Option (Int) := z2s s_n s (fun c0_ => some c0_)
theorem z7y {R R' : Type} (o : Option R → Option R') (h0 : o none = none) (s_n : Nat) (s : List Nat) (k_ : Int → Option R) : z2s s_n s (fun c0_ => o (k_ c0_)) = o (z2s s_n s k_) := by
  unfold z2s
  repeat (first | refine grd_out h0 ?_ | refine br_out ?_ ?_ | rfl | exact h0.symm)
noncomputable def z3l (s_n : Nat) (s : List Nat) : Bool := (z2r s_n s).isSome
noncomputable def z3i (s_n : Nat) (s : List Nat) : Int := ((z2r s_n s).getD default)
theorem z99 {s_n : Nat} {s : List Nat} {r : Int} (h : z2r s_n s = some r) : z3l s_n s = true ∧ z3i s_n s = r := by
  unfold z3l z3i
  rw [h]
  exact ⟨rfl, rfl⟩
noncomputable def z2o {R : Type} (s_n : Nat) (s : List Nat) (k_ : Bool → Option R) : Option R := (grd (z3l s_n (pF s 0 (muN s_n 1))) (k_ (leI 0 (z3i s_n (pF s 0 (muN s_n 1))))))
noncomputable def z2p (s_n : Nat) (s : List Nat) : Option (Bool) := z2o s_n s (fun c0_ => some c0_)
theorem z7a {R R' : Type} (o : Option R → Option R') (h0 : o none = none) (s_n : Nat) (s : List Nat) (k_ : Bool → Option R) : z2o s_n s (fun c0_ => o (k_ c0_)) = o (z2o s_n s k_) := by
  unfold z2o
  repeat (first | refine grd_out h0 ?_ | refine br_out ?_ ?_ | rfl | exact h0.symm)
noncomputable def z3d (s_n : Nat) (s : List Nat) : Bool := (z2p s_n s).isSome
noncomputable def z36 (s_n : Nat) (s : List Nat) : Bool := ((z2p s_n s).getD default)
theorem z7x {s_n : Nat} {s : List Nat} {r : Bool} (h : z2p s_n s = some r) : z3d s_n s = true ∧ z36 s_n s = r := by
  unfold z3d z36
  rw [h]
  exact ⟨rfl, rfl⟩
noncomputable def z3o {R : Type} (by_ : Int) (n_ : Int) (b0 : List Nat) (b1 : List Nat) (q09 : Nat) (q08 : Nat) (k : Int) (q0d : Nat) (q0e : Nat) (b7 : List Nat) (b8 : List Nat) (kn_ : Int → Nat → Nat → (List Nat) → (List Nat) → Option R) (k0_ : Int → Bool → Nat → Nat → (List Nat) → (List Nat) → Option R) : Option R := (br (ltI k n_) (grd (okNz n_) (grd (okIx (remI (addI IntKind.i64 (subI IntKind.i64 k by_) (mulI IntKind.i64 n_ 16)) n_) q09) (grd (okA2 q0d 1 4 (nF (pF [(gF b0 (ixO 0 (remI (addI IntKind.i64 (subI IntKind.i64 k by_) (mulI IntKind.i64 n_ 16)) n_) 1))] 0 (muN 1 1))) (nF b7) 1) (grd (okIx (remI (addI IntKind.i64 (subI IntKind.i64 k by_) (mulI IntKind.i64 n_ 16)) n_) q08) (grd (okA2 q0e 1 4 (nF (pF [(gF b1 (ixO 0 (remI (addI IntKind.i64 (subI IntKind.i64 k by_) (mulI IntKind.i64 n_ 16)) n_) 1))] 0 (muN 1 1))) (nF b8) 1) (kn_ (addI IntKind.i64 k 1) (adN q0d 1) (adN q0e 1) (aF b7 (pF [(gF b0 (ixO 0 (remI (addI IntKind.i64 (subI IntKind.i64 k by_) (mulI IntKind.i64 n_ 16)) n_) 1))] 0 (muN 1 1))) (aF b8 (pF [(gF b1 (ixO 0 (remI (addI IntKind.i64 (subI IntKind.i64 k by_) (mulI IntKind.i64 n_ 16)) n_) 1))] 0 (muN 1 1))))))))) (k0_ k (ltI k n_) q0d q0e b7 b8))
theorem zap {R R' : Type} (o : Option R → Option R') (h0 : o none = none) (by_ : Int) (n_ : Int) (b0 : List Nat) (b1 : List Nat) (q09 : Nat) (q08 : Nat) (k : Int) (q0d : Nat) (q0e : Nat) (b7 : List Nat) (b8 : List Nat) (kn_ : Int → Nat → Nat → (List Nat) → (List Nat) → Option R) (k0_ : Int → Bool → Nat → Nat → (List Nat) → (List Nat) → Option R) : z3o by_ n_ b0 b1 q09 q08 k q0d q0e b7 b8 (fun k' q0d' q0e' b7' b8' => o (kn_ k' q0d' q0e' b7' b8')) (fun c0_ c1_ c2_ c3_ c4_ c5_ => o (k0_ c0_ c1_ c2_ c3_ c4_ c5_)) = o (z3o by_ n_ b0 b1 q09 q08 k q0d q0e b7 b8 kn_ k0_) := by
  unfold z3o
  repeat (first | refine grd_out h0 ?_ | refine br_out ?_ ?_ | rfl | exact h0.symm)
noncomputable def z2h (by_ : Int) (n_ : Int) (b0 : List Nat) (b1 : List Nat) (q09 : Nat) (q08 : Nat) : Nat → Int → Nat → Nat → (List Nat) → (List Nat) → Option ((Int × Bool × Nat × Nat × (List Nat) × (List Nat)))
  | 0, _, _, _, _, _ => none
  | n + 1, k, q0d, q0e, b7, b8 => z3o by_ n_ b0 b1 q09 q08  k q0d q0e b7 b8  (fun k' q0d' q0e' b7' b8' => z2h by_ n_ b0 b1 q09 q08 n k' q0d' q0e' b7' b8') (fun c0_ c1_ c2_ c3_ c4_ c5_ => some (c0_, c1_, c2_, c3_, c4_, c5_))
theorem z9q (by_ : Int) (n_ : Int) (b0 : List Nat) (b1 : List Nat) (q09 : Nat) (q08 : Nat) (n : Nat) (k : Int) (q0d : Nat) (q0e : Nat) (b7 : List Nat) (b8 : List Nat) : z2h by_ n_ b0 b1 q09 q08 (n + 1) k q0d q0e b7 b8 = z3o by_ n_ b0 b1 q09 q08  k q0d q0e b7 b8  (fun k' q0d' q0e' b7' b8' => z2h by_ n_ b0 b1 q09 q08 n k' q0d' q0e' b7' b8') (fun c0_ c1_ c2_ c3_ c4_ c5_ => some (c0_, c1_, c2_, c3_, c4_, c5_)) := rfl
noncomputable def z5h (by_ : Int) (n_ : Int) (b0 : List Nat) (b1 : List Nat) (q09 : Nat) (q08 : Nat) (k : Int) (q0d : Nat) (q0e : Nat) (b7 : List Nat) (b8 : List Nat) : Bool := (z2h by_ n_ b0 b1 q09 q08 big k q0d q0e b7 b8).isSome
noncomputable def z89 (by_ : Int) (n_ : Int) (b0 : List Nat) (b1 : List Nat) (q09 : Nat) (q08 : Nat) (k : Int) (q0d : Nat) (q0e : Nat) (b7 : List Nat) (b8 : List Nat) : Int := ((z2h by_ n_ b0 b1 q09 q08 big k q0d q0e b7 b8).getD default).1
noncomputable def z8a (by_ : Int) (n_ : Int) (b0 : List Nat) (b1 : List Nat) (q09 : Nat) (q08 : Nat) (k : Int) (q0d : Nat) (q0e : Nat) (b7 : List Nat) (b8 : List Nat) : Bool := ((z2h by_ n_ b0 b1 q09 q08 big k q0d q0e b7 b8).getD default).2.1
noncomputable def z4o (by_ : Int) (n_ : Int) (b0 : List Nat) (b1 : List Nat) (q09 : Nat) (q08 : Nat) (k : Int) (q0d : Nat) (q0e : Nat) (b7 : List Nat) (b8 : List Nat) : Nat := ((z2h by_ n_ b0 b1 q09 q08 big k q0d q0e b7 b8).getD default).2.2.1
noncomputable def z4p (by_ : Int) (n_ : Int) (b0 : List Nat) (b1 : List Nat) (q09 : Nat) (q08 : Nat) (k : Int) (q0d : Nat) (q0e : Nat) (b7 : List Nat) (b8 : List Nat) : Nat := ((z2h by_ n_ b0 b1 q09 q08 big k q0d q0e b7 b8).getD default).2.2.2.1
noncomputable def z4i (by_ : Int) (n_ : Int) (b0 : List Nat) (b1 : List Nat) (q09 : Nat) (q08 : Nat) (k : Int) (q0d : Nat) (q0e : Nat) (b7 : List Nat) (b8 : List Nat) : List Nat := ((z2h by_ n_ b0 b1 q09 q08 big k q0d q0e b7 b8).getD default).2.2.2.2.1
noncomputable def z4l (by_ : Int) (n_ : Int) (b0 : List Nat) (b1 : List Nat) (q09 : Nat) (q08 : Nat) (k : Int) (q0d : Nat) (q0e : Nat) (b7 : List Nat) (b8 : List Nat) : List Nat := ((z2h by_ n_ b0 b1 q09 q08 big k q0d q0e b7 b8).getD default).2.2.2.2.2
theorem zb9 {by_ : Int} {n_ : Int} {b0 : List Nat} {b1 : List Nat} {q09 : Nat} {q08 : Nat} {k : Int} {q0d : Nat} {q0e : Nat} {b7 : List Nat} {b8 : List Nat} {m : Nat} {r : Int × Bool × Nat × Nat × (List Nat) × (List Nat)} (hm : m = big) (h : z2h by_ n_ b0 b1 q09 q08 m k q0d q0e b7 b8 = some r) : z5h by_ n_ b0 b1 q09 q08 k q0d q0e b7 b8 = true ∧ z89 by_ n_ b0 b1 q09 q08 k q0d q0e b7 b8 = r.1 ∧ z8a by_ n_ b0 b1 q09 q08 k q0d q0e b7 b8 = r.2.1 ∧ z4o by_ n_ b0 b1 q09 q08 k q0d q0e b7 b8 = r.2.2.1 ∧ z4p by_ n_ b0 b1 q09 q08 k q0d q0e b7 b8 = r.2.2.2.1 ∧ z4i by_ n_ b0 b1 q09 q08 k q0d q0e b7 b8 = r.2.2.2.2.1 ∧ z4l by_ n_ b0 b1 q09 q08 k q0d q0e b7 b8 = r.2.2.2.2.2 := by
  subst hm
  unfold z5h z89 z8a z4o z4p z4i z4l
  rw [h]
  exact ⟨rfl, rfl, rfl, rfl, rfl, rfl, rfl⟩
noncomputable def z5r {R : Type} (q04 : Nat) (q0a : List Nat) (q05 : Nat) (q0b : List Nat) (by_ : Int) (k_ : Nat → Nat → Bool → (List Nat) → (List Nat) → Option R) : Option R := (grd (z9o q04 (pF q0a 0 (muN q04 1)) q05 (pF q0b 0 (muN q05 1))) (br (bnot (z9f q04 (pF q0a 0 (muN q04 1)) q05 (pF q0b 0 (muN q05 1)))) (k_ 0 0 Bool.false [] []) (grd (z9w by_ (Int.negSucc 15) 16) (br (bnot (z9u by_ (Int.negSucc 15) 16)) (k_ 0 0 Bool.false [] []) (grd (z5h by_ (Int.ofNat q04) q0a q0b q04 q05 0 0 0 [] []) (k_ (z4o by_ (Int.ofNat q04) q0a q0b q04 q05 0 0 0 [] []) (z4p by_ (Int.ofNat q04) q0a q0b q04 q05 0 0 0 [] []) Bool.true (z4i by_ (Int.ofNat q04) q0a q0b q04 q05 0 0 0 [] []) (z4l by_ (Int.ofNat q04) q0a q0b q04 q05 0 0 0 [] [])))))))
noncomputable def z43 (q04 : Nat) (q0a : List Nat) (q05 : Nat) (q0b : List Nat) (by_ : Int) : Option (Nat × Nat × Bool × (List Nat) × (List Nat)) := z5r q04 q0a q05 q0b by_ (fun c0_ c1_ c2_ c3_ c4_ => some (c0_, c1_, c2_, c3_, c4_))
theorem zbs {R R' : Type} (o : Option R → Option R') (h0 : o none = none) (q04 : Nat) (q0a : List Nat) (q05 : Nat) (q0b : List Nat) (by_ : Int) (k_ : Nat → Nat → Bool → (List Nat) → (List Nat) → Option R) : z5r q04 q0a q05 q0b by_ (fun c0_ c1_ c2_ c3_ c4_ => o (k_ c0_ c1_ c2_ c3_ c4_)) = o (z5r q04 q0a q05 q0b by_ k_) := by
  unfold z5r
  repeat (first | refine grd_out h0 ?_ | refine br_out ?_ ?_ | rfl | exact h0.symm)
noncomputable def z9k (q04 : Nat) (q0a : List Nat) (q05 : Nat) (q0b : List Nat) (by_ : Int) : Bool := (z43 q04 q0a q05 q0b by_).isSome
noncomputable def z96 (q04 : Nat) (q0a : List Nat) (q05 : Nat) (q0b : List Nat) (by_ : Int) : Nat := ((z43 q04 q0a q05 q0b by_).getD default).1
noncomputable def z8y (q04 : Nat) (q0a : List Nat) (q05 : Nat) (q0b : List Nat) (by_ : Int) : Nat := ((z43 q04 q0a q05 q0b by_).getD default).2.1
noncomputable def z97 (q04 : Nat) (q0a : List Nat) (q05 : Nat) (q0b : List Nat) (by_ : Int) : Bool := ((z43 q04 q0a q05 q0b by_).getD default).2.2.1
noncomputable def z8u (q04 : Nat) (q0a : List Nat) (q05 : Nat) (q0b : List Nat) (by_ : Int) : List Nat := ((z43 q04 q0a q05 q0b by_).getD default).2.2.2.1
noncomputable def z95 (q04 : Nat) (q0a : List Nat) (q05 : Nat) (q0b : List Nat) (by_ : Int) : List Nat := ((z43 q04 q0a q05 q0b by_).getD default).2.2.2.2
theorem zcn {q04 : Nat} {q0a : List Nat} {q05 : Nat} {q0b : List Nat} {by_ : Int} {r : Nat × Nat × Bool × (List Nat) × (List Nat)} (h : z43 q04 q0a q05 q0b by_ = some r) : z9k q04 q0a q05 q0b by_ = true ∧ z96 q04 q0a q05 q0b by_ = r.1 ∧ z8y q04 q0a q05 q0b by_ = r.2.1 ∧ z97 q04 q0a q05 q0b by_ = r.2.2.1 ∧ z8u q04 q0a q05 q0b by_ = r.2.2.2.1 ∧ z95 q04 q0a q05 q0b by_ = r.2.2.2.2 := by
  unfold z9k z96 z8y z97 z8u z95
  rw [h]
  exact ⟨rfl, rfl, rfl, rfl, rfl, rfl⟩
noncomputable def z5t {R : Type} (q0t : Nat) (q0u : List Nat) (k_ : Bool → Option R) : Option R := (grd (z3d q0t (pF q0u 0 (muN q0t 1))) (k_ (bnot (z36 q0t (pF q0u 0 (muN q0t 1))))))
noncomputable def z5u (q0t : Nat) (q0u : List Nat) : Option (Bool) := z5t q0t q0u (fun c0_ => some c0_)
theorem zbu {R R' : Type} (o : Option R → Option R') (h0 : o none = none) (q0t : Nat) (q0u : List Nat) (k_ : Bool → Option R) : z5t q0t q0u (fun c0_ => o (k_ c0_)) = o (z5t q0t q0u k_) := by
  unfold z5t
  repeat (first | refine grd_out h0 ?_ | refine br_out ?_ ?_ | rfl | exact h0.symm)
noncomputable def z77 (q0t : Nat) (q0u : List Nat) : Bool := (z5u q0t q0u).isSome
noncomputable def z69 (q0t : Nat) (q0u : List Nat) : Bool := ((z5u q0t q0u).getD default)
theorem zad {q0t : Nat} {q0u : List Nat} {r : Bool} (h : z5u q0t q0u = some r) : z77 q0t q0u = true ∧ z69 q0t q0u = r := by
  unfold z77 z69
  rw [h]
  exact ⟨rfl, rfl⟩
noncomputable def z5c {R : Type} (q04 : Nat) (q0a : List Nat) (q05 : Nat) (q0b : List Nat) (k_ : Bool → Option R) : Option R := (br (leI 1 (Int.ofNat q04)) (br (leI (Int.ofNat q04) 16) (br (eqI (Int.ofNat q05) (Int.ofNat q04)) (grd (z77 q04 (pF q0a 0 (muN q04 1))) (br (z69 q04 (pF q0a 0 (muN q04 1))) (grd (z77 q05 (pF q0b 0 (muN q05 1))) (k_ (z69 q05 (pF q0b 0 (muN q05 1))))) (k_ Bool.false))) (k_ Bool.false)) (k_ Bool.false)) (k_ Bool.false))
noncomputable def z5e (q04 : Nat) (q0a : List Nat) (q05 : Nat) (q0b : List Nat) : Option (Bool) := z5c q04 q0a q05 q0b (fun c0_ => some c0_)
theorem zba {R R' : Type} (o : Option R → Option R') (h0 : o none = none) (q04 : Nat) (q0a : List Nat) (q05 : Nat) (q0b : List Nat) (k_ : Bool → Option R) : z5c q04 q0a q05 q0b (fun c0_ => o (k_ c0_)) = o (z5c q04 q0a q05 q0b k_) := by
  unfold z5c
  repeat (first | refine grd_out h0 ?_ | refine br_out ?_ ?_ | rfl | exact h0.symm)
noncomputable def z8s (q04 : Nat) (q0a : List Nat) (q05 : Nat) (q0b : List Nat) : Bool := (z5e q04 q0a q05 q0b).isSome
noncomputable def z7r (q04 : Nat) (q0a : List Nat) (q05 : Nat) (q0b : List Nat) : Bool := ((z5e q04 q0a q05 q0b).getD default)
theorem zc9 {q04 : Nat} {q0a : List Nat} {q05 : Nat} {q0b : List Nat} {r : Bool} (h : z5e q04 q0a q05 q0b = some r) : z8s q04 q0a q05 q0b = true ∧ z7r q04 q0a q05 q0b = r := by
  unfold z8s z7r
  rw [h]
  exact ⟨rfl, rfl⟩
noncomputable def z3m {R : Type} (by_ : Int) (n_ : Int) (t23 : Int) (b0 : List Nat) (b1 : List Nat) (q09 : Nat) (q08 : Nat) (t24 : Int) (q0d : Nat) (q0e : Nat) (b7 : List Nat) (b8 : List Nat) (kn_ : Int → Nat → Nat → (List Nat) → (List Nat) → Option R) (k0_ : Int → Bool → Nat → Nat → (List Nat) → (List Nat) → Option R) : Option R := (br (ltI t24 t23) (grd (okNz n_) (grd (okNz n_) (grd (okIx (remI (addI IntKind.i64 (remI (subI IntKind.i64 t24 by_) n_) n_) n_) q09) (grd (okA2 q0d 1 4 (nF (pF [(gF b0 (ixO 0 (remI (addI IntKind.i64 (remI (subI IntKind.i64 t24 by_) n_) n_) n_) 1))] 0 (muN 1 1))) (nF b7) 1) (grd (okIx (remI (addI IntKind.i64 (remI (subI IntKind.i64 t24 by_) n_) n_) n_) q08) (grd (okA2 q0e 1 4 (nF (pF [(gF b1 (ixO 0 (remI (addI IntKind.i64 (remI (subI IntKind.i64 t24 by_) n_) n_) n_) 1))] 0 (muN 1 1))) (nF b8) 1) (kn_ (addI IntKind.i64 t24 1) (adN q0d 1) (adN q0e 1) (aF b7 (pF [(gF b0 (ixO 0 (remI (addI IntKind.i64 (remI (subI IntKind.i64 t24 by_) n_) n_) n_) 1))] 0 (muN 1 1))) (aF b8 (pF [(gF b1 (ixO 0 (remI (addI IntKind.i64 (remI (subI IntKind.i64 t24 by_) n_) n_) n_) 1))] 0 (muN 1 1)))))))))) (k0_ t24 (ltI t24 t23) q0d q0e b7 b8))
theorem zas {R R' : Type} (o : Option R → Option R') (h0 : o none = none) (by_ : Int) (n_ : Int) (t23 : Int) (b0 : List Nat) (b1 : List Nat) (q09 : Nat) (q08 : Nat) (t24 : Int) (q0d : Nat) (q0e : Nat) (b7 : List Nat) (b8 : List Nat) (kn_ : Int → Nat → Nat → (List Nat) → (List Nat) → Option R) (k0_ : Int → Bool → Nat → Nat → (List Nat) → (List Nat) → Option R) : z3m by_ n_ t23 b0 b1 q09 q08 t24 q0d q0e b7 b8 (fun t24' q0d' q0e' b7' b8' => o (kn_ t24' q0d' q0e' b7' b8')) (fun c0_ c1_ c2_ c3_ c4_ c5_ => o (k0_ c0_ c1_ c2_ c3_ c4_ c5_)) = o (z3m by_ n_ t23 b0 b1 q09 q08 t24 q0d q0e b7 b8 kn_ k0_) := by
  unfold z3m
  repeat (first | refine grd_out h0 ?_ | refine br_out ?_ ?_ | rfl | exact h0.symm)
noncomputable def z2i (by_ : Int) (n_ : Int) (t23 : Int) (b0 : List Nat) (b1 : List Nat) (q09 : Nat) (q08 : Nat) : Nat → Int → Nat → Nat → (List Nat) → (List Nat) → Option ((Int × Bool × Nat × Nat × (List Nat) × (List Nat)))
  | 0, _, _, _, _, _ => none
  | n + 1, t24, q0d, q0e, b7, b8 => z3m by_ n_ t23 b0 b1 q09 q08  t24 q0d q0e b7 b8  (fun t24' q0d' q0e' b7' b8' => z2i by_ n_ t23 b0 b1 q09 q08 n t24' q0d' q0e' b7' b8') (fun c0_ c1_ c2_ c3_ c4_ c5_ => some (c0_, c1_, c2_, c3_, c4_, c5_))
theorem z9r (by_ : Int) (n_ : Int) (t23 : Int) (b0 : List Nat) (b1 : List Nat) (q09 : Nat) (q08 : Nat) (n : Nat) (t24 : Int) (q0d : Nat) (q0e : Nat) (b7 : List Nat) (b8 : List Nat) : z2i by_ n_ t23 b0 b1 q09 q08 (n + 1) t24 q0d q0e b7 b8 = z3m by_ n_ t23 b0 b1 q09 q08  t24 q0d q0e b7 b8  (fun t24' q0d' q0e' b7' b8' => z2i by_ n_ t23 b0 b1 q09 q08 n t24' q0d' q0e' b7' b8') (fun c0_ c1_ c2_ c3_ c4_ c5_ => some (c0_, c1_, c2_, c3_, c4_, c5_)) := rfl
noncomputable def z5i (by_ : Int) (n_ : Int) (t23 : Int) (b0 : List Nat) (b1 : List Nat) (q09 : Nat) (q08 : Nat) (t24 : Int) (q0d : Nat) (q0e : Nat) (b7 : List Nat) (b8 : List Nat) : Bool := (z2i by_ n_ t23 b0 b1 q09 q08 big t24 q0d q0e b7 b8).isSome
noncomputable def z87 (by_ : Int) (n_ : Int) (t23 : Int) (b0 : List Nat) (b1 : List Nat) (q09 : Nat) (q08 : Nat) (t24 : Int) (q0d : Nat) (q0e : Nat) (b7 : List Nat) (b8 : List Nat) : Int := ((z2i by_ n_ t23 b0 b1 q09 q08 big t24 q0d q0e b7 b8).getD default).1
noncomputable def z86 (by_ : Int) (n_ : Int) (t23 : Int) (b0 : List Nat) (b1 : List Nat) (q09 : Nat) (q08 : Nat) (t24 : Int) (q0d : Nat) (q0e : Nat) (b7 : List Nat) (b8 : List Nat) : Bool := ((z2i by_ n_ t23 b0 b1 q09 q08 big t24 q0d q0e b7 b8).getD default).2.1
noncomputable def z4m (by_ : Int) (n_ : Int) (t23 : Int) (b0 : List Nat) (b1 : List Nat) (q09 : Nat) (q08 : Nat) (t24 : Int) (q0d : Nat) (q0e : Nat) (b7 : List Nat) (b8 : List Nat) : Nat := ((z2i by_ n_ t23 b0 b1 q09 q08 big t24 q0d q0e b7 b8).getD default).2.2.1
noncomputable def z4k (by_ : Int) (n_ : Int) (t23 : Int) (b0 : List Nat) (b1 : List Nat) (q09 : Nat) (q08 : Nat) (t24 : Int) (q0d : Nat) (q0e : Nat) (b7 : List Nat) (b8 : List Nat) : Nat := ((z2i by_ n_ t23 b0 b1 q09 q08 big t24 q0d q0e b7 b8).getD default).2.2.2.1
noncomputable def z4j (by_ : Int) (n_ : Int) (t23 : Int) (b0 : List Nat) (b1 : List Nat) (q09 : Nat) (q08 : Nat) (t24 : Int) (q0d : Nat) (q0e : Nat) (b7 : List Nat) (b8 : List Nat) : List Nat := ((z2i by_ n_ t23 b0 b1 q09 q08 big t24 q0d q0e b7 b8).getD default).2.2.2.2.1
noncomputable def z4n (by_ : Int) (n_ : Int) (t23 : Int) (b0 : List Nat) (b1 : List Nat) (q09 : Nat) (q08 : Nat) (t24 : Int) (q0d : Nat) (q0e : Nat) (b7 : List Nat) (b8 : List Nat) : List Nat := ((z2i by_ n_ t23 b0 b1 q09 q08 big t24 q0d q0e b7 b8).getD default).2.2.2.2.2
theorem zbf {by_ : Int} {n_ : Int} {t23 : Int} {b0 : List Nat} {b1 : List Nat} {q09 : Nat} {q08 : Nat} {t24 : Int} {q0d : Nat} {q0e : Nat} {b7 : List Nat} {b8 : List Nat} {m : Nat} {r : Int × Bool × Nat × Nat × (List Nat) × (List Nat)} (hm : m = big) (h : z2i by_ n_ t23 b0 b1 q09 q08 m t24 q0d q0e b7 b8 = some r) : z5i by_ n_ t23 b0 b1 q09 q08 t24 q0d q0e b7 b8 = true ∧ z87 by_ n_ t23 b0 b1 q09 q08 t24 q0d q0e b7 b8 = r.1 ∧ z86 by_ n_ t23 b0 b1 q09 q08 t24 q0d q0e b7 b8 = r.2.1 ∧ z4m by_ n_ t23 b0 b1 q09 q08 t24 q0d q0e b7 b8 = r.2.2.1 ∧ z4k by_ n_ t23 b0 b1 q09 q08 t24 q0d q0e b7 b8 = r.2.2.2.1 ∧ z4j by_ n_ t23 b0 b1 q09 q08 t24 q0d q0e b7 b8 = r.2.2.2.2.1 ∧ z4n by_ n_ t23 b0 b1 q09 q08 t24 q0d q0e b7 b8 = r.2.2.2.2.2 := by
  subst hm
  unfold z5i z87 z86 z4m z4k z4j z4n
  rw [h]
  exact ⟨rfl, rfl, rfl, rfl, rfl, rfl, rfl⟩
noncomputable def z5q {R : Type} (q04 : Nat) (q0a : List Nat) (q05 : Nat) (q0b : List Nat) (by_ : Int) (k_ : Nat → Nat → Bool → (List Nat) → (List Nat) → Option R) : Option R := (grd (z8s q04 (pF q0a 0 (muN q04 1)) q05 (pF q0b 0 (muN q05 1))) (br (bnot (z7r q04 (pF q0a 0 (muN q04 1)) q05 (pF q0b 0 (muN q05 1)))) (k_ 0 0 Bool.false [] []) (grd (z9v by_ (Int.negSucc 15) 16) (br (bnot (z9p by_ (Int.negSucc 15) 16)) (k_ 0 0 Bool.false [] []) (grd (z5i by_ (Int.ofNat q04) (Int.ofNat q04) q0a q0b q04 q05 0 0 0 [] []) (k_ (z4m by_ (Int.ofNat q04) (Int.ofNat q04) q0a q0b q04 q05 0 0 0 [] []) (z4k by_ (Int.ofNat q04) (Int.ofNat q04) q0a q0b q04 q05 0 0 0 [] []) Bool.true (z4j by_ (Int.ofNat q04) (Int.ofNat q04) q0a q0b q04 q05 0 0 0 [] []) (z4n by_ (Int.ofNat q04) (Int.ofNat q04) q0a q0b q04 q05 0 0 0 [] [])))))))
noncomputable def z42 (q04 : Nat) (q0a : List Nat) (q05 : Nat) (q0b : List Nat) (by_ : Int) : Option (Nat × Nat × Bool × (List Nat) × (List Nat)) := z5q q04 q0a q05 q0b by_ (fun c0_ c1_ c2_ c3_ c4_ => some (c0_, c1_, c2_, c3_, c4_))
theorem zbr {R R' : Type} (o : Option R → Option R') (h0 : o none = none) (q04 : Nat) (q0a : List Nat) (q05 : Nat) (q0b : List Nat) (by_ : Int) (k_ : Nat → Nat → Bool → (List Nat) → (List Nat) → Option R) : z5q q04 q0a q05 q0b by_ (fun c0_ c1_ c2_ c3_ c4_ => o (k_ c0_ c1_ c2_ c3_ c4_)) = o (z5q q04 q0a q05 q0b by_ k_) := by
  unfold z5q
  repeat (first | refine grd_out h0 ?_ | refine br_out ?_ ?_ | rfl | exact h0.symm)
noncomputable def z9g (q04 : Nat) (q0a : List Nat) (q05 : Nat) (q0b : List Nat) (by_ : Int) : Bool := (z42 q04 q0a q05 q0b by_).isSome
noncomputable def z93 (q04 : Nat) (q0a : List Nat) (q05 : Nat) (q0b : List Nat) (by_ : Int) : Nat := ((z42 q04 q0a q05 q0b by_).getD default).1
noncomputable def z92 (q04 : Nat) (q0a : List Nat) (q05 : Nat) (q0b : List Nat) (by_ : Int) : Nat := ((z42 q04 q0a q05 q0b by_).getD default).2.1
noncomputable def z8q (q04 : Nat) (q0a : List Nat) (q05 : Nat) (q0b : List Nat) (by_ : Int) : Bool := ((z42 q04 q0a q05 q0b by_).getD default).2.2.1
noncomputable def z94 (q04 : Nat) (q0a : List Nat) (q05 : Nat) (q0b : List Nat) (by_ : Int) : List Nat := ((z42 q04 q0a q05 q0b by_).getD default).2.2.2.1
noncomputable def z90 (q04 : Nat) (q0a : List Nat) (q05 : Nat) (q0b : List Nat) (by_ : Int) : List Nat := ((z42 q04 q0a q05 q0b by_).getD default).2.2.2.2
theorem zco {q04 : Nat} {q0a : List Nat} {q05 : Nat} {q0b : List Nat} {by_ : Int} {r : Nat × Nat × Bool × (List Nat) × (List Nat)} (h : z42 q04 q0a q05 q0b by_ = some r) : z9g q04 q0a q05 q0b by_ = true ∧ z93 q04 q0a q05 q0b by_ = r.1 ∧ z92 q04 q0a q05 q0b by_ = r.2.1 ∧ z8q q04 q0a q05 q0b by_ = r.2.2.1 ∧ z94 q04 q0a q05 q0b by_ = r.2.2.2.1 ∧ z90 q04 q0a q05 q0b by_ = r.2.2.2.2 := by
  unfold z9g z93 z92 z8q z94 z90
  rw [h]
  exact ⟨rfl, rfl, rfl, rfl, rfl, rfl⟩
noncomputable def z2m {R : Type} (an : Nat) (k : Int) (i : Int) (b7 : List Nat) (kn_ : Int → Int → (List Nat) → Option R) (k0_ : Int → Int → Bool → (List Nat) → Option R) : Option R := (br (ltI i (Int.ofNat an)) (grd (okIx i an) (kn_ (addI IntKind.i64 k 1) (addI IntKind.i64 i 1) (sF b7 (ixO 0 i 1) (fOI FloatKind.f32 k)))) (k0_ k i (ltI i (Int.ofNat an)) b7))
theorem z7m {R R' : Type} (o : Option R → Option R') (h0 : o none = none) (an : Nat) (k : Int) (i : Int) (b7 : List Nat) (kn_ : Int → Int → (List Nat) → Option R) (k0_ : Int → Int → Bool → (List Nat) → Option R) : z2m an k i b7 (fun k' i' b7' => o (kn_ k' i' b7')) (fun c0_ c1_ c2_ c3_ => o (k0_ c0_ c1_ c2_ c3_)) = o (z2m an k i b7 kn_ k0_) := by
  unfold z2m
  repeat (first | refine grd_out h0 ?_ | refine br_out ?_ ?_ | rfl | exact h0.symm)
noncomputable def z1k (an : Nat) : Nat → Int → Int → (List Nat) → Option ((Int × Int × Bool × (List Nat)))
  | 0, _, _, _ => none
  | n + 1, k, i, b7 => z2m an  k i b7  (fun k' i' b7' => z1k an n k' i' b7') (fun c0_ c1_ c2_ c3_ => some (c0_, c1_, c2_, c3_))
theorem z7i (an : Nat) (n : Nat) (k : Int) (i : Int) (b7 : List Nat) : z1k an (n + 1) k i b7 = z2m an  k i b7  (fun k' i' b7' => z1k an n k' i' b7') (fun c0_ c1_ c2_ c3_ => some (c0_, c1_, c2_, c3_)) := rfl
noncomputable def z3k (an : Nat) (k : Int) (i : Int) (b7 : List Nat) : Bool := (z1k an big k i b7).isSome
noncomputable def z37 (an : Nat) (k : Int) (i : Int) (b7 : List Nat) : Int := ((z1k an big k i b7).getD default).1
noncomputable def z40 (an : Nat) (k : Int) (i : Int) (b7 : List Nat) : Int := ((z1k an big k i b7).getD default).2.1
noncomputable def z3z (an : Nat) (k : Int) (i : Int) (b7 : List Nat) : Bool := ((z1k an big k i b7).getD default).2.2.1
noncomputable def z41 (an : Nat) (k : Int) (i : Int) (b7 : List Nat) : List Nat := ((z1k an big k i b7).getD default).2.2.2
theorem z8k {an : Nat} {k : Int} {i : Int} {b7 : List Nat} {m : Nat} {r : Int × Int × Bool × (List Nat)} (hm : m = big) (h : z1k an m k i b7 = some r) : z3k an k i b7 = true ∧ z37 an k i b7 = r.1 ∧ z40 an k i b7 = r.2.1 ∧ z3z an k i b7 = r.2.2.1 ∧ z41 an k i b7 = r.2.2.2 := by
  subst hm
  unfold z3k z37 z40 z3z z41
  rw [h]
  exact ⟨rfl, rfl, rfl, rfl, rfl⟩
noncomputable def z2j {R : Type} (an : Nat) (k : Int) (i : Int) (b8 : List Nat) (kn_ : Int → Int → (List Nat) → Option R) (k0_ : Int → Int → Bool → (List Nat) → Option R) : Option R := (br (ltI i (Int.ofNat an)) (grd (okIx i an) (kn_ (addI IntKind.i64 k 1) (addI IntKind.i64 i 1) (sF b8 (ixO 0 i 1) (fOI FloatKind.f32 k)))) (k0_ k i (ltI i (Int.ofNat an)) b8))
theorem z7e {R R' : Type} (o : Option R → Option R') (h0 : o none = none) (an : Nat) (k : Int) (i : Int) (b8 : List Nat) (kn_ : Int → Int → (List Nat) → Option R) (k0_ : Int → Int → Bool → (List Nat) → Option R) : z2j an k i b8 (fun k' i' b8' => o (kn_ k' i' b8')) (fun c0_ c1_ c2_ c3_ => o (k0_ c0_ c1_ c2_ c3_)) = o (z2j an k i b8 kn_ k0_) := by
  unfold z2j
  repeat (first | refine grd_out h0 ?_ | refine br_out ?_ ?_ | rfl | exact h0.symm)
noncomputable def z1f (an : Nat) : Nat → Int → Int → (List Nat) → Option ((Int × Int × Bool × (List Nat)))
  | 0, _, _, _ => none
  | n + 1, k, i, b8 => z2j an  k i b8  (fun k' i' b8' => z1f an n k' i' b8') (fun c0_ c1_ c2_ c3_ => some (c0_, c1_, c2_, c3_))
theorem z6r (an : Nat) (n : Nat) (k : Int) (i : Int) (b8 : List Nat) : z1f an (n + 1) k i b8 = z2j an  k i b8  (fun k' i' b8' => z1f an n k' i' b8') (fun c0_ c1_ c2_ c3_ => some (c0_, c1_, c2_, c3_)) := rfl
noncomputable def z3c (an : Nat) (k : Int) (i : Int) (b8 : List Nat) : Bool := (z1f an big k i b8).isSome
noncomputable def z32 (an : Nat) (k : Int) (i : Int) (b8 : List Nat) : Int := ((z1f an big k i b8).getD default).1
noncomputable def z3x (an : Nat) (k : Int) (i : Int) (b8 : List Nat) : Int := ((z1f an big k i b8).getD default).2.1
noncomputable def z3v (an : Nat) (k : Int) (i : Int) (b8 : List Nat) : Bool := ((z1f an big k i b8).getD default).2.2.1
noncomputable def z3t (an : Nat) (k : Int) (i : Int) (b8 : List Nat) : List Nat := ((z1f an big k i b8).getD default).2.2.2
theorem z7l {an : Nat} {k : Int} {i : Int} {b8 : List Nat} {m : Nat} {r : Int × Int × Bool × (List Nat)} (hm : m = big) (h : z1f an m k i b8 = some r) : z3c an k i b8 = true ∧ z32 an k i b8 = r.1 ∧ z3x an k i b8 = r.2.1 ∧ z3v an k i b8 = r.2.2.1 ∧ z3t an k i b8 = r.2.2.2 := by
  subst hm
  unfold z3c z32 z3x z3v z3t
  rw [h]
  exact ⟨rfl, rfl, rfl, rfl, rfl⟩
noncomputable def z2k {R : Type} (an : Nat) (k : Int) (i : Int) (b7 : List Nat) (kn_ : Int → Int → (List Nat) → Option R) (k0_ : Int → Int → Bool → (List Nat) → Option R) : Option R := (br (ltI i (Int.ofNat an)) (grd (okIx i an) (kn_ (addI IntKind.i64 k 1) (addI IntKind.i64 i 1) (sF b7 (ixO 0 i 1) (fOI FloatKind.f32 k)))) (k0_ k i (ltI i (Int.ofNat an)) b7))
theorem z7f {R R' : Type} (o : Option R → Option R') (h0 : o none = none) (an : Nat) (k : Int) (i : Int) (b7 : List Nat) (kn_ : Int → Int → (List Nat) → Option R) (k0_ : Int → Int → Bool → (List Nat) → Option R) : z2k an k i b7 (fun k' i' b7' => o (kn_ k' i' b7')) (fun c0_ c1_ c2_ c3_ => o (k0_ c0_ c1_ c2_ c3_)) = o (z2k an k i b7 kn_ k0_) := by
  unfold z2k
  repeat (first | refine grd_out h0 ?_ | refine br_out ?_ ?_ | rfl | exact h0.symm)
noncomputable def z1g (an : Nat) : Nat → Int → Int → (List Nat) → Option ((Int × Int × Bool × (List Nat)))
  | 0, _, _, _ => none
  | n + 1, k, i, b7 => z2k an  k i b7  (fun k' i' b7' => z1g an n k' i' b7') (fun c0_ c1_ c2_ c3_ => some (c0_, c1_, c2_, c3_))
theorem z6w (an : Nat) (n : Nat) (k : Int) (i : Int) (b7 : List Nat) : z1g an (n + 1) k i b7 = z2k an  k i b7  (fun k' i' b7' => z1g an n k' i' b7') (fun c0_ c1_ c2_ c3_ => some (c0_, c1_, c2_, c3_)) := rfl
noncomputable def z3b (an : Nat) (k : Int) (i : Int) (b7 : List Nat) : Bool := (z1g an big k i b7).isSome
noncomputable def z31 (an : Nat) (k : Int) (i : Int) (b7 : List Nat) : Int := ((z1g an big k i b7).getD default).1
noncomputable def z3s (an : Nat) (k : Int) (i : Int) (b7 : List Nat) : Int := ((z1g an big k i b7).getD default).2.1
noncomputable def z3w (an : Nat) (k : Int) (i : Int) (b7 : List Nat) : Bool := ((z1g an big k i b7).getD default).2.2.1
noncomputable def z2z (an : Nat) (k : Int) (i : Int) (b7 : List Nat) : List Nat := ((z1g an big k i b7).getD default).2.2.2
theorem z7n {an : Nat} {k : Int} {i : Int} {b7 : List Nat} {m : Nat} {r : Int × Int × Bool × (List Nat)} (hm : m = big) (h : z1g an m k i b7 = some r) : z3b an k i b7 = true ∧ z31 an k i b7 = r.1 ∧ z3s an k i b7 = r.2.1 ∧ z3w an k i b7 = r.2.2.1 ∧ z2z an k i b7 = r.2.2.2 := by
  subst hm
  unfold z3b z31 z3s z3w z2z
  rw [h]
  exact ⟨rfl, rfl, rfl, rfl, rfl⟩
noncomputable def z2l {R : Type} (an : Nat) (k : Int) (i : Int) (b8 : List Nat) (kn_ : Int → Int → (List Nat) → Option R) (k0_ : Int → Int → Bool → (List Nat) → Option R) : Option R := (br (ltI i (Int.ofNat an)) (grd (okIx i an) (kn_ (addI IntKind.i64 k 1) (addI IntKind.i64 i 1) (sF b8 (ixO 0 i 1) (fOI FloatKind.f32 k)))) (k0_ k i (ltI i (Int.ofNat an)) b8))
theorem z7c {R R' : Type} (o : Option R → Option R') (h0 : o none = none) (an : Nat) (k : Int) (i : Int) (b8 : List Nat) (kn_ : Int → Int → (List Nat) → Option R) (k0_ : Int → Int → Bool → (List Nat) → Option R) : z2l an k i b8 (fun k' i' b8' => o (kn_ k' i' b8')) (fun c0_ c1_ c2_ c3_ => o (k0_ c0_ c1_ c2_ c3_)) = o (z2l an k i b8 kn_ k0_) := by
  unfold z2l
  repeat (first | refine grd_out h0 ?_ | refine br_out ?_ ?_ | rfl | exact h0.symm)
noncomputable def z1e (an : Nat) : Nat → Int → Int → (List Nat) → Option ((Int × Int × Bool × (List Nat)))
  | 0, _, _, _ => none
  | n + 1, k, i, b8 => z2l an  k i b8  (fun k' i' b8' => z1e an n k' i' b8') (fun c0_ c1_ c2_ c3_ => some (c0_, c1_, c2_, c3_))
theorem z6t (an : Nat) (n : Nat) (k : Int) (i : Int) (b8 : List Nat) : z1e an (n + 1) k i b8 = z2l an  k i b8  (fun k' i' b8' => z1e an n k' i' b8') (fun c0_ c1_ c2_ c3_ => some (c0_, c1_, c2_, c3_)) := rfl
noncomputable def z38 (an : Nat) (k : Int) (i : Int) (b8 : List Nat) : Bool := (z1e an big k i b8).isSome
noncomputable def z35 (an : Nat) (k : Int) (i : Int) (b8 : List Nat) : Int := ((z1e an big k i b8).getD default).1
noncomputable def z3u (an : Nat) (k : Int) (i : Int) (b8 : List Nat) : Int := ((z1e an big k i b8).getD default).2.1
noncomputable def z3q (an : Nat) (k : Int) (i : Int) (b8 : List Nat) : Bool := ((z1e an big k i b8).getD default).2.2.1
noncomputable def z30 (an : Nat) (k : Int) (i : Int) (b8 : List Nat) : List Nat := ((z1e an big k i b8).getD default).2.2.2
theorem z7k {an : Nat} {k : Int} {i : Int} {b8 : List Nat} {m : Nat} {r : Int × Int × Bool × (List Nat)} (hm : m = big) (h : z1e an m k i b8 = some r) : z38 an k i b8 = true ∧ z35 an k i b8 = r.1 ∧ z3u an k i b8 = r.2.1 ∧ z3q an k i b8 = r.2.2.1 ∧ z30 an k i b8 = r.2.2.2 := by
  subst hm
  unfold z38 z35 z3u z3q z30
  rw [h]
  exact ⟨rfl, rfl, rfl, rfl, rfl⟩
noncomputable def z1z (q00 : Nat) (q02 : List Nat) (q01 : Nat) (q03 : List Nat) (x1 : Int) := (z80 q00 (pF q02 0 (muN q00 1)) q01 (pF q03 0 (muN q01 1)))
noncomputable def z59 (q00 : Nat) (q02 : List Nat) (q01 : Nat) (q03 : List Nat) (x1 : Int) := (z7v q00 (pF q02 0 (muN q00 1)) q01 (pF q03 0 (muN q01 1)))
noncomputable def z4a (q00 : Nat) (q02 : List Nat) (q01 : Nat) (q03 : List Nat) (x1 : Int) := (z9b q00 (pF q02 0 (muN q00 1)) q01 (pF q03 0 (muN q01 1)))
noncomputable def z58 (q00 : Nat) (q02 : List Nat) (q01 : Nat) (q03 : List Nat) (x1 : Int) := (z88 q00 (pF q02 0 (muN q00 1)) q01 (pF q03 0 (muN q01 1)))
noncomputable def z1y (q00 : Nat) (q02 : List Nat) (q01 : Nat) (q03 : List Nat) (x1 : Int) := (z82 q00 (pF q02 0 (muN q00 1)) q01 (pF q03 0 (muN q01 1)))
noncomputable def z6u (q00 : Nat) (q02 : List Nat) (q01 : Nat) (q03 : List Nat) (x1 : Int) := (z37 (z1y q00 q02 q01 q03 x1) 1 0 (z58 q00 q02 q01 q03 x1))
noncomputable def z2a (q00 : Nat) (q02 : List Nat) (q01 : Nat) (q03 : List Nat) (x1 : Int) := (pF (z59 q00 q02 q01 q03 x1) 0 (muN (z1z q00 q02 q01 q03 x1) 1))
noncomputable def z2b (q00 : Nat) (q02 : List Nat) (q01 : Nat) (q03 : List Nat) (x1 : Int) := (pF (z58 q00 q02 q01 q03 x1) 0 (muN (z1y q00 q02 q01 q03 x1) 1))
noncomputable def z2x (q00 : Nat) (q02 : List Nat) (q01 : Nat) (q03 : List Nat) (x1 : Int) := (z93 (z1y q00 q02 q01 q03 x1) (z2b q00 q02 q01 q03 x1) (z1z q00 q02 q01 q03 x1) (z2a q00 q02 q01 q03 x1) x1)
noncomputable def z2y (q00 : Nat) (q02 : List Nat) (q01 : Nat) (q03 : List Nat) (x1 : Int) := (z92 (z1y q00 q02 q01 q03 x1) (z2b q00 q02 q01 q03 x1) (z1z q00 q02 q01 q03 x1) (z2a q00 q02 q01 q03 x1) x1)
noncomputable def z4y (q00 : Nat) (q02 : List Nat) (q01 : Nat) (q03 : List Nat) (x1 : Int) := (z96 (z1y q00 q02 q01 q03 x1) (z2b q00 q02 q01 q03 x1) (z1z q00 q02 q01 q03 x1) (z2a q00 q02 q01 q03 x1) x1)
noncomputable def z4u (q00 : Nat) (q02 : List Nat) (q01 : Nat) (q03 : List Nat) (x1 : Int) := (z8y (z1y q00 q02 q01 q03 x1) (z2b q00 q02 q01 q03 x1) (z1z q00 q02 q01 q03 x1) (z2a q00 q02 q01 q03 x1) x1)
noncomputable def z6f (q00 : Nat) (q02 : List Nat) (q01 : Nat) (q03 : List Nat) (x1 : Int) := (z9g (z1y q00 q02 q01 q03 x1) (z2b q00 q02 q01 q03 x1) (z1z q00 q02 q01 q03 x1) (z2a q00 q02 q01 q03 x1) x1)
noncomputable def z48 (q00 : Nat) (q02 : List Nat) (q01 : Nat) (q03 : List Nat) (x1 : Int) := (z94 (z1y q00 q02 q01 q03 x1) (z2b q00 q02 q01 q03 x1) (z1z q00 q02 q01 q03 x1) (z2a q00 q02 q01 q03 x1) x1)
noncomputable def z49 (q00 : Nat) (q02 : List Nat) (q01 : Nat) (q03 : List Nat) (x1 : Int) := (z90 (z1y q00 q02 q01 q03 x1) (z2b q00 q02 q01 q03 x1) (z1z q00 q02 q01 q03 x1) (z2a q00 q02 q01 q03 x1) x1)
noncomputable def z6h (q00 : Nat) (q02 : List Nat) (q01 : Nat) (q03 : List Nat) (x1 : Int) := (muN (z2y q00 q02 q01 q03 x1) 1)
noncomputable def z6l (q00 : Nat) (q02 : List Nat) (q01 : Nat) (q03 : List Nat) (x1 : Int) := (muN (z2x q00 q02 q01 q03 x1) 1)
noncomputable def z4w (q00 : Nat) (q02 : List Nat) (q01 : Nat) (q03 : List Nat) (x1 : Int) := (bnot (beqB (z8q (z1y q00 q02 q01 q03 x1) (z2b q00 q02 q01 q03 x1) (z1z q00 q02 q01 q03 x1) (z2a q00 q02 q01 q03 x1) x1) (z97 (z1y q00 q02 q01 q03 x1) (z2b q00 q02 q01 q03 x1) (z1z q00 q02 q01 q03 x1) (z2a q00 q02 q01 q03 x1) x1)))
noncomputable def z4z (q00 : Nat) (q02 : List Nat) (q01 : Nat) (q03 : List Nat) (x1 : Int) := (z31 (z2x q00 q02 q01 q03 x1) 1 0 (z48 q00 q02 q01 q03 x1))
noncomputable def z6k (q00 : Nat) (q02 : List Nat) (q01 : Nat) (q03 : List Nat) (x1 : Int) := (pF (z95 (z1y q00 q02 q01 q03 x1) (z2b q00 q02 q01 q03 x1) (z1z q00 q02 q01 q03 x1) (z2a q00 q02 q01 q03 x1) x1) 0 (muN (z4u q00 q02 q01 q03 x1) 1))
noncomputable def z6n (q00 : Nat) (q02 : List Nat) (q01 : Nat) (q03 : List Nat) (x1 : Int) := (pF (z49 q00 q02 q01 q03 x1) 0 (z6h q00 q02 q01 q03 x1))
noncomputable def z68 (q00 : Nat) (q02 : List Nat) (q01 : Nat) (q03 : List Nat) (x1 : Int) := (pF (z48 q00 q02 q01 q03 x1) 0 (z6l q00 q02 q01 q03 x1))
noncomputable def z6b (q00 : Nat) (q02 : List Nat) (q01 : Nat) (q03 : List Nat) (x1 : Int) := (pF (z8u (z1y q00 q02 q01 q03 x1) (z2b q00 q02 q01 q03 x1) (z1z q00 q02 q01 q03 x1) (z2a q00 q02 q01 q03 x1) x1) 0 (muN (z4y q00 q02 q01 q03 x1) 1))
noncomputable def z6e (q00 : Nat) (q02 : List Nat) (q01 : Nat) (q03 : List Nat) (x1 : Int) := (pF (z2z (z2x q00 q02 q01 q03 x1) 1 0 (z48 q00 q02 q01 q03 x1)) 0 (z6l q00 q02 q01 q03 x1))
noncomputable def z6i (q00 : Nat) (q02 : List Nat) (q01 : Nat) (q03 : List Nat) (x1 : Int) := (pF (z30 (z2y q00 q02 q01 q03 x1) (z4z q00 q02 q01 q03 x1) 0 (z49 q00 q02 q01 q03 x1)) 0 (z6h q00 q02 q01 q03 x1))
noncomputable def z6m (q00 : Nat) (q02 : List Nat) (q01 : Nat) (q03 : List Nat) (x1 : Int) := (z8r (z2x q00 q02 q01 q03 x1) (z6e q00 q02 q01 q03 x1) (z2y q00 q02 q01 q03 x1) (z6i q00 q02 q01 q03 x1) 1)
noncomputable def z6j (q00 : Nat) (q02 : List Nat) (q01 : Nat) (q03 : List Nat) (x1 : Int) := (z9j (z2x q00 q02 q01 q03 x1) (z6e q00 q02 q01 q03 x1) (z2y q00 q02 q01 q03 x1) (z6i q00 q02 q01 q03 x1) 1)
noncomputable def z6d (q00 : Nat) (q02 : List Nat) (q01 : Nat) (q03 : List Nat) (x1 : Int) := (ltI (z6m q00 q02 q01 q03 x1) 0)
noncomputable def z4x (q00 : Nat) (q02 : List Nat) (q01 : Nat) (q03 : List Nat) (x1 : Int) := (z73 (z2x q00 q02 q01 q03 x1) (z68 q00 q02 q01 q03 x1) (z2y q00 q02 q01 q03 x1) (z6n q00 q02 q01 q03 x1) (z4y q00 q02 q01 q03 x1) (z6b q00 q02 q01 q03 x1) (z4u q00 q02 q01 q03 x1) (z6k q00 q02 q01 q03 x1))
noncomputable def z4v (q00 : Nat) (q02 : List Nat) (q01 : Nat) (q03 : List Nat) (x1 : Int) := (bnot (z66 (z2x q00 q02 q01 q03 x1) (z68 q00 q02 q01 q03 x1) (z2y q00 q02 q01 q03 x1) (z6n q00 q02 q01 q03 x1) (z4y q00 q02 q01 q03 x1) (z6b q00 q02 q01 q03 x1) (z4u q00 q02 q01 q03 x1) (z6k q00 q02 q01 q03 x1)))
noncomputable def z6g (q00 : Nat) (q02 : List Nat) (q01 : Nat) (q03 : List Nat) (x1 : Int) := (neI (z6m q00 q02 q01 q03 x1) (z35 (z2y q00 q02 q01 q03 x1) (z4z q00 q02 q01 q03 x1) 0 (z49 q00 q02 q01 q03 x1)))
noncomputable def z46 {R : Type} (q00 : Nat) (q02 : List Nat) (q01 : Nat) (q03 : List Nat) (x1 : Int) (k_ : Bool → Option R) : Option R := (grd (z9d q00 (pF q02 0 (muN q00 1)) q01 (pF q03 0 (muN q01 1)) 1048576) (br (ltI (z7u q00 (pF q02 0 (muN q00 1)) q01 (pF q03 0 (muN q01 1)) 1048576) 0) (k_ Bool.true) (grd (z4a q00 q02 q01 q03 x1) (grd (z9k (z1y q00 q02 q01 q03 x1) (z2b q00 q02 q01 q03 x1) (z1z q00 q02 q01 q03 x1) (z2a q00 q02 q01 q03 x1) x1) (grd (z4a q00 q02 q01 q03 x1) (grd (z6f q00 q02 q01 q03 x1) (grd (z4x q00 q02 q01 q03 x1) (br (z4v q00 q02 q01 q03 x1) (k_ Bool.false) (br (z4w q00 q02 q01 q03 x1) (k_ Bool.false) (grd (z4a q00 q02 q01 q03 x1) (grd (z73 (z1y q00 q02 q01 q03 x1) (z2b q00 q02 q01 q03 x1) (z1z q00 q02 q01 q03 x1) (z2a q00 q02 q01 q03 x1) (z1y q00 q02 q01 q03 x1) (z2b q00 q02 q01 q03 x1) (z1z q00 q02 q01 q03 x1) (z2a q00 q02 q01 q03 x1)) (br (bnot (z66 (z1y q00 q02 q01 q03 x1) (z2b q00 q02 q01 q03 x1) (z1z q00 q02 q01 q03 x1) (z2a q00 q02 q01 q03 x1) (z1y q00 q02 q01 q03 x1) (z2b q00 q02 q01 q03 x1) (z1z q00 q02 q01 q03 x1) (z2a q00 q02 q01 q03 x1))) (k_ Bool.false) (grd (z3k (z1y q00 q02 q01 q03 x1) 1 0 (z58 q00 q02 q01 q03 x1)) (grd (z3c (z1z q00 q02 q01 q03 x1) (z6u q00 q02 q01 q03 x1) 0 (z59 q00 q02 q01 q03 x1)) (br (ltI (z32 (z1z q00 q02 q01 q03 x1) (z6u q00 q02 q01 q03 x1) 0 (z59 q00 q02 q01 q03 x1)) 0) (k_ Bool.false) (grd (z4x q00 q02 q01 q03 x1) (br (z4v q00 q02 q01 q03 x1) (k_ Bool.false) (br (z4w q00 q02 q01 q03 x1) (k_ Bool.false) (grd (z3b (z2x q00 q02 q01 q03 x1) 1 0 (z48 q00 q02 q01 q03 x1)) (grd (z38 (z2y q00 q02 q01 q03 x1) (z4z q00 q02 q01 q03 x1) 0 (z49 q00 q02 q01 q03 x1)) (grd (z6j q00 q02 q01 q03 x1) (br (z6d q00 q02 q01 q03 x1) (k_ Bool.false) (br (z6g q00 q02 q01 q03 x1) (k_ Bool.false) (grd (z4a q00 q02 q01 q03 x1) (grd (z6f q00 q02 q01 q03 x1) (grd (z4x q00 q02 q01 q03 x1) (br (z4v q00 q02 q01 q03 x1) (k_ Bool.false) (br (z4w q00 q02 q01 q03 x1) (k_ Bool.false) (grd (z6j q00 q02 q01 q03 x1) (br (z6d q00 q02 q01 q03 x1) (k_ Bool.false) (br (z6g q00 q02 q01 q03 x1) (k_ Bool.false) (k_ Bool.true))))))))))))))))))))))))))))))))
noncomputable def z45 (q00 : Nat) (q02 : List Nat) (q01 : Nat) (q03 : List Nat) (x1 : Int) : Option (Bool) := z46 q00 q02 q01 q03 x1 (fun c0_ => some c0_)
theorem za2 {R R' : Type} (o : Option R → Option R') (h0 : o none = none) (q00 : Nat) (q02 : List Nat) (q01 : Nat) (q03 : List Nat) (x1 : Int) (k_ : Bool → Option R) : z46 q00 q02 q01 q03 x1 (fun c0_ => o (k_ c0_)) = o (z46 q00 q02 q01 q03 x1 k_) := by
  unfold z46
  repeat (first | refine grd_out h0 ?_ | refine br_out ?_ ?_ | rfl | exact h0.symm)
noncomputable def z7j (q00 : Nat) (q02 : List Nat) (q01 : Nat) (q03 : List Nat) (x1 : Int) : Bool := (z45 q00 q02 q01 q03 x1).isSome
noncomputable def z6v (q00 : Nat) (q02 : List Nat) (q01 : Nat) (q03 : List Nat) (x1 : Int) : Bool := ((z45 q00 q02 q01 q03 x1).getD default)
theorem zah {q00 : Nat} {q02 : List Nat} {q01 : Nat} {q03 : List Nat} {x1 : Int} {r : Bool} (h : z45 q00 q02 q01 q03 x1 = some r) : z7j q00 q02 q01 q03 x1 = true ∧ z6v q00 q02 q01 q03 x1 = r := by
  unfold z7j z6v
  rw [h]
  exact ⟨rfl, rfl⟩
end Go.Rf
