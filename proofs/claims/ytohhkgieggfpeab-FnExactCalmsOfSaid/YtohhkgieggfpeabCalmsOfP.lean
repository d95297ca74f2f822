import Derived.Test.YtohhkgieggfpeabB
set_option linter.unusedVariables false
set_option linter.unusedSimpArgs false
set_option maxRecDepth 100000
set_option maxHeartbeats 4000000
namespace Go.Rf
open Go
noncomputable def T_laws_sameFloat {R : Type} (a : Nat) (b : Nat) (k_ : Bool → Option R) : Option R := (br (fcmp BinOp.neq FloatKind.f64 a a) (br (fcmp BinOp.neq FloatKind.f64 a a) (k_ (fcmp BinOp.neq FloatKind.f64 b b)) (k_ Bool.false)) (br (fcmp BinOp.neq FloatKind.f64 b b) (br (fcmp BinOp.neq FloatKind.f64 a a) (k_ (fcmp BinOp.neq FloatKind.f64 b b)) (k_ Bool.false)) (br (fcmp BinOp.eql FloatKind.f64 a 0) (br (fcmp BinOp.eql FloatKind.f64 b 0) (k_ (beqB (fcmp BinOp.gtr FloatKind.f64 (fop BinOp.quo FloatKind.f64 4607182418800017408 a) 0) (fcmp BinOp.gtr FloatKind.f64 (fop BinOp.quo FloatKind.f64 4607182418800017408 b) 0))) (k_ (fcmp BinOp.eql FloatKind.f64 a b))) (k_ (fcmp BinOp.eql FloatKind.f64 a b)))))
noncomputable def F_laws_sameFloat (a : Nat) (b : Nat) : Option (Bool) := T_laws_sameFloat a b (fun c0_ => some c0_)
theorem T_laws_sameFloat_nat {R R' : Type} (o : Option R → Option R') (h0 : o none = none) (a : Nat) (b : Nat) (k_ : Bool → Option R) : T_laws_sameFloat a b (fun c0_ => o (k_ c0_)) = o (T_laws_sameFloat a b k_) := by
  unfold T_laws_sameFloat
  repeat (first | refine grd_out h0 ?_ | refine br_out ?_ ?_ | rfl | exact h0.symm)
noncomputable def laws_sameFloat_p (a : Nat) (b : Nat) : Bool := (F_laws_sameFloat a b).isSome
noncomputable def laws_sameFloat_v0 (a : Nat) (b : Nat) : Bool := ((F_laws_sameFloat a b).getD default)
theorem laws_sameFloat_of {a : Nat} {b : Nat} {r : Bool} (h : F_laws_sameFloat a b = some r) : laws_sameFloat_p a b = true ∧ laws_sameFloat_v0 a b = r := by
  unfold laws_sameFloat_p laws_sameFloat_v0
  rw [h]
  exact ⟨rfl, rfl⟩
noncomputable def T_impl_IsFinite {R : Type} (x : Nat) (k_ : Bool → Option R) : Option R := (k_ (fcmp BinOp.eql FloatKind.f32 (fop BinOp.sub FloatKind.f32 x x) 0))
noncomputable def F_impl_IsFinite (x : Nat) : Option (Bool) := T_impl_IsFinite x (fun c0_ => some c0_)
theorem T_impl_IsFinite_nat {R R' : Type} (o : Option R → Option R') (h0 : o none = none) (x : Nat) (k_ : Bool → Option R) : T_impl_IsFinite x (fun c0_ => o (k_ c0_)) = o (T_impl_IsFinite x k_) := by
  unfold T_impl_IsFinite
  repeat (first | refine grd_out h0 ?_ | refine br_out ?_ ?_ | rfl | exact h0.symm)
noncomputable def impl_IsFinite_p (x : Nat) : Bool := (F_impl_IsFinite x).isSome
noncomputable def impl_IsFinite_v0 (x : Nat) : Bool := ((F_impl_IsFinite x).getD default)
theorem impl_IsFinite_of {x : Nat} {r : Bool} (h : F_impl_IsFinite x = some r) : impl_IsFinite_p x = true ∧ impl_IsFinite_v0 x = r := by
  unfold impl_IsFinite_p impl_IsFinite_v0
  rw [h]
  exact ⟨rfl, rfl⟩
noncomputable def T_spec_l00Max {R : Type} (a : Int) (b : Int) (k_ : Int → Option R) : Option R := (br (ltI b a) (k_ a) (k_ b))
noncomputable def F_spec_l00Max (a : Int) (b : Int) : Option (Int) := T_spec_l00Max a b (fun c0_ => some c0_)
theorem T_spec_l00Max_nat {R R' : Type} (o : Option R → Option R') (h0 : o none = none) (a : Int) (b : Int) (k_ : Int → Option R) : T_spec_l00Max a b (fun c0_ => o (k_ c0_)) = o (T_spec_l00Max a b k_) := by
  unfold T_spec_l00Max
  repeat (first | refine grd_out h0 ?_ | refine br_out ?_ ?_ | rfl | exact h0.symm)
noncomputable def spec_l00Max_p (a : Int) (b : Int) : Bool := (F_spec_l00Max a b).isSome
noncomputable def spec_l00Max_v0 (a : Int) (b : Int) : Int := ((F_spec_l00Max a b).getD default)
theorem spec_l00Max_of {a : Int} {b : Int} {r : Int} (h : F_spec_l00Max a b = some r) : spec_l00Max_p a b = true ∧ spec_l00Max_v0 a b = r := by
  unfold spec_l00Max_p spec_l00Max_v0
  rw [h]
  exact ⟨rfl, rfl⟩
noncomputable def T_spec_l01Finite {R : Type} (x : Nat) (k_ : Bool → Option R) : Option R := (k_ (fcmp BinOp.eql FloatKind.f32 (fop BinOp.sub FloatKind.f32 x x) 0))
noncomputable def F_spec_l01Finite (x : Nat) : Option (Bool) := T_spec_l01Finite x (fun c0_ => some c0_)
theorem T_spec_l01Finite_nat {R R' : Type} (o : Option R → Option R') (h0 : o none = none) (x : Nat) (k_ : Bool → Option R) : T_spec_l01Finite x (fun c0_ => o (k_ c0_)) = o (T_spec_l01Finite x k_) := by
  unfold T_spec_l01Finite
  repeat (first | refine grd_out h0 ?_ | refine br_out ?_ ?_ | rfl | exact h0.symm)
noncomputable def spec_l01Finite_p (x : Nat) : Bool := (F_spec_l01Finite x).isSome
noncomputable def spec_l01Finite_v0 (x : Nat) : Bool := ((F_spec_l01Finite x).getD default)
theorem spec_l01Finite_of {x : Nat} {r : Bool} (h : F_spec_l01Finite x = some r) : spec_l01Finite_p x = true ∧ spec_l01Finite_v0 x = r := by
  unfold spec_l01Finite_p spec_l01Finite_v0
  rw [h]
  exact ⟨rfl, rfl⟩
noncomputable def T_impl_isLeast {R : Type} (x : Nat) (k_ : Bool → Option R) : Option R := (grd (impl_IsFinite_p x) (br (impl_IsFinite_v0 x) (k_ (fcmp BinOp.geq FloatKind.f32 x 0)) (k_ Bool.false)))
noncomputable def F_impl_isLeast (x : Nat) : Option (Bool) := T_impl_isLeast x (fun c0_ => some c0_)
theorem T_impl_isLeast_nat {R R' : Type} (o : Option R → Option R') (h0 : o none = none) (x : Nat) (k_ : Bool → Option R) : T_impl_isLeast x (fun c0_ => o (k_ c0_)) = o (T_impl_isLeast x k_) := by
  unfold T_impl_isLeast
  repeat (first | refine grd_out h0 ?_ | refine br_out ?_ ?_ | rfl | exact h0.symm)
noncomputable def impl_isLeast_p (x : Nat) : Bool := (F_impl_isLeast x).isSome
noncomputable def impl_isLeast_v0 (x : Nat) : Bool := ((F_impl_isLeast x).getD default)
theorem impl_isLeast_of {x : Nat} {r : Bool} (h : F_impl_isLeast x = some r) : impl_isLeast_p x = true ∧ impl_isLeast_v0 x = r := by
  unfold impl_isLeast_p impl_isLeast_v0
  rw [h]
  exact ⟨rfl, rfl⟩
noncomputable def T_spec_l02Least {R : Type} (x : Nat) (k_ : Bool → Option R) : Option R := (grd (spec_l01Finite_p x) (br (spec_l01Finite_v0 x) (k_ (fcmp BinOp.geq FloatKind.f32 x 0)) (k_ Bool.false)))
noncomputable def F_spec_l02Least (x : Nat) : Option (Bool) := T_spec_l02Least x (fun c0_ => some c0_)
theorem T_spec_l02Least_nat {R R' : Type} (o : Option R → Option R') (h0 : o none = none) (x : Nat) (k_ : Bool → Option R) : T_spec_l02Least x (fun c0_ => o (k_ c0_)) = o (T_spec_l02Least x k_) := by
  unfold T_spec_l02Least
  repeat (first | refine grd_out h0 ?_ | refine br_out ?_ ?_ | rfl | exact h0.symm)
noncomputable def spec_l02Least_p (x : Nat) : Bool := (F_spec_l02Least x).isSome
noncomputable def spec_l02Least_v0 (x : Nat) : Bool := ((F_spec_l02Least x).getD default)
theorem spec_l02Least_of {x : Nat} {r : Bool} (h : F_spec_l02Least x = some r) : spec_l02Least_p x = true ∧ spec_l02Least_v0 x = r := by
  unfold spec_l02Least_p spec_l02Least_v0
  rw [h]
  exact ⟨rfl, rfl⟩
noncomputable def T_laws_toFloat32S_l3 {R : Type} (an : Nat) (outn : Nat) (b0 : List Nat) (i : Int) (b1 : List Nat) (kn_ : Int → (List Nat) → Option R) (k0_ : Int → Bool → (List Nat) → Option R) : Option R := (br (ltI i (Int.ofNat an)) (grd (okIx i an) (grd (okIx i outn) (kn_ (addI IntKind.i64 i 1) (sF b1 (ixO 0 i 1) (gF b0 (ixO 0 i 1)))))) (k0_ i (ltI i (Int.ofNat an)) b1))
theorem T_laws_toFloat32S_l3_nat {R R' : Type} (o : Option R → Option R') (h0 : o none = none) (an : Nat) (outn : Nat) (b0 : List Nat) (i : Int) (b1 : List Nat) (kn_ : Int → (List Nat) → Option R) (k0_ : Int → Bool → (List Nat) → Option R) : T_laws_toFloat32S_l3 an outn b0 i b1 (fun i' b1' => o (kn_ i' b1')) (fun c0_ c1_ c2_ => o (k0_ c0_ c1_ c2_)) = o (T_laws_toFloat32S_l3 an outn b0 i b1 kn_ k0_) := by
  unfold T_laws_toFloat32S_l3
  repeat (first | refine grd_out h0 ?_ | refine br_out ?_ ?_ | rfl | exact h0.symm)
noncomputable def L_laws_toFloat32S_l3 (an : Nat) (outn : Nat) (b0 : List Nat) : Nat → Int → (List Nat) → Option ((Int × Bool × (List Nat)))
  | 0, _, _ => none
  | n + 1, i, b1 => T_laws_toFloat32S_l3 an outn b0  i b1  (fun i' b1' => L_laws_toFloat32S_l3 an outn b0 n i' b1') (fun c0_ c1_ c2_ => some (c0_, c1_, c2_))
theorem L_laws_toFloat32S_l3_succ (an : Nat) (outn : Nat) (b0 : List Nat) (n : Nat) (i : Int) (b1 : List Nat) : L_laws_toFloat32S_l3 an outn b0 (n + 1) i b1 = T_laws_toFloat32S_l3 an outn b0  i b1  (fun i' b1' => L_laws_toFloat32S_l3 an outn b0 n i' b1') (fun c0_ c1_ c2_ => some (c0_, c1_, c2_)) := rfl
noncomputable def laws_toFloat32S_l3_p (an : Nat) (outn : Nat) (b0 : List Nat) (i : Int) (b1 : List Nat) : Bool := (L_laws_toFloat32S_l3 an outn b0 big i b1).isSome
noncomputable def laws_toFloat32S_l3_a0_0 (an : Nat) (outn : Nat) (b0 : List Nat) (i : Int) (b1 : List Nat) : Int := ((L_laws_toFloat32S_l3 an outn b0 big i b1).getD default).1
noncomputable def laws_toFloat32S_l3_a0_1 (an : Nat) (outn : Nat) (b0 : List Nat) (i : Int) (b1 : List Nat) : Bool := ((L_laws_toFloat32S_l3 an outn b0 big i b1).getD default).2.1
noncomputable def laws_toFloat32S_l3_a0_2 (an : Nat) (outn : Nat) (b0 : List Nat) (i : Int) (b1 : List Nat) : List Nat := ((L_laws_toFloat32S_l3 an outn b0 big i b1).getD default).2.2
theorem laws_toFloat32S_l3_of0 {an : Nat} {outn : Nat} {b0 : List Nat} {i : Int} {b1 : List Nat} {m : Nat} {r : Int × Bool × (List Nat)} (hm : m = big) (h : L_laws_toFloat32S_l3 an outn b0 m i b1 = some r) : laws_toFloat32S_l3_p an outn b0 i b1 = true ∧ laws_toFloat32S_l3_a0_0 an outn b0 i b1 = r.1 ∧ laws_toFloat32S_l3_a0_1 an outn b0 i b1 = r.2.1 ∧ laws_toFloat32S_l3_a0_2 an outn b0 i b1 = r.2.2 := by
  subst hm
  unfold laws_toFloat32S_l3_p laws_toFloat32S_l3_a0_0 laws_toFloat32S_l3_a0_1 laws_toFloat32S_l3_a0_2
  rw [h]
  exact ⟨rfl, rfl, rfl, rfl⟩
noncomputable def T_laws_toFloat32S {R : Type} (a_n : Nat) (a : List Nat) (k_ : Nat → (List Nat) → Option R) : Option R := (grd (okMk (Int.ofNat a_n) (Int.ofNat a_n) 4) (grd (laws_toFloat32S_l3_p a_n (toN (Int.ofNat a_n)) a 0 (rF (muN (toN (Int.ofNat a_n)) 1))) (k_ (toN (Int.ofNat a_n)) (laws_toFloat32S_l3_a0_2 a_n (toN (Int.ofNat a_n)) a 0 (rF (muN (toN (Int.ofNat a_n)) 1))))))
noncomputable def F_laws_toFloat32S (a_n : Nat) (a : List Nat) : Option (Nat × (List Nat)) := T_laws_toFloat32S a_n a (fun c0_ c1_ => some (c0_, c1_))
theorem T_laws_toFloat32S_nat {R R' : Type} (o : Option R → Option R') (h0 : o none = none) (a_n : Nat) (a : List Nat) (k_ : Nat → (List Nat) → Option R) : T_laws_toFloat32S a_n a (fun c0_ c1_ => o (k_ c0_ c1_)) = o (T_laws_toFloat32S a_n a k_) := by
  unfold T_laws_toFloat32S
  repeat (first | refine grd_out h0 ?_ | refine br_out ?_ ?_ | rfl | exact h0.symm)
noncomputable def laws_toFloat32S_p (a_n : Nat) (a : List Nat) : Bool := (F_laws_toFloat32S a_n a).isSome
noncomputable def laws_toFloat32S_v0 (a_n : Nat) (a : List Nat) : Nat := ((F_laws_toFloat32S a_n a).getD default).1
noncomputable def laws_toFloat32S_v1 (a_n : Nat) (a : List Nat) : List Nat := ((F_laws_toFloat32S a_n a).getD default).2
theorem laws_toFloat32S_of {a_n : Nat} {a : List Nat} {r : Nat × (List Nat)} (h : F_laws_toFloat32S a_n a = some r) : laws_toFloat32S_p a_n a = true ∧ laws_toFloat32S_v0 a_n a = r.1 ∧ laws_toFloat32S_v1 a_n a = r.2 := by
  unfold laws_toFloat32S_p laws_toFloat32S_v0 laws_toFloat32S_v1
  rw [h]
  exact ⟨rfl, rfl, rfl⟩
noncomputable def T_impl_areLeast_1 {R : Type} (x : Nat) (k_ : Bool → Option R) : Option R := (grd (impl_isLeast_p x) (k_ (bnot (impl_isLeast_v0 x))))
noncomputable def F_impl_areLeast_1 (x : Nat) : Option (Bool) := T_impl_areLeast_1 x (fun c0_ => some c0_)
theorem T_impl_areLeast_1_nat {R R' : Type} (o : Option R → Option R') (h0 : o none = none) (x : Nat) (k_ : Bool → Option R) : T_impl_areLeast_1 x (fun c0_ => o (k_ c0_)) = o (T_impl_areLeast_1 x k_) := by
  unfold T_impl_areLeast_1
  repeat (first | refine grd_out h0 ?_ | refine br_out ?_ ?_ | rfl | exact h0.symm)
noncomputable def impl_areLeast_1_p (x : Nat) : Bool := (F_impl_areLeast_1 x).isSome
noncomputable def impl_areLeast_1_v0 (x : Nat) : Bool := ((F_impl_areLeast_1 x).getD default)
theorem impl_areLeast_1_of {x : Nat} {r : Bool} (h : F_impl_areLeast_1 x = some r) : impl_areLeast_1_p x = true ∧ impl_areLeast_1_v0 x = r := by
  unfold impl_areLeast_1_p impl_areLeast_1_v0
  rw [h]
  exact ⟨rfl, rfl⟩
noncomputable def T_laws_eqFloat32S_l4 {R : Type} (an : Nat) (bn : Nat) (b0 : List Nat) (b1 : List Nat) (i : Int) (kn_ : Int → Option R) (k0_ : Unit → Option R) (k1_ : Int → Bool → Option R) : Option R := (br (ltI i (Int.ofNat an)) (grd (okIx i an) (grd (okIx i bn) (grd (laws_sameFloat_p (fcvV FloatKind.f32 FloatKind.f64 (gF b0 (ixO 0 i 1))) (fcvV FloatKind.f32 FloatKind.f64 (gF b1 (ixO 0 i 1)))) (br (bnot (laws_sameFloat_v0 (fcvV FloatKind.f32 FloatKind.f64 (gF b0 (ixO 0 i 1))) (fcvV FloatKind.f32 FloatKind.f64 (gF b1 (ixO 0 i 1))))) (k0_ ()) (kn_ (addI IntKind.i64 i 1)))))) (k1_ i (ltI i (Int.ofNat an))))
theorem T_laws_eqFloat32S_l4_nat {R R' : Type} (o : Option R → Option R') (h0 : o none = none) (an : Nat) (bn : Nat) (b0 : List Nat) (b1 : List Nat) (i : Int) (kn_ : Int → Option R) (k0_ : Unit → Option R) (k1_ : Int → Bool → Option R) : T_laws_eqFloat32S_l4 an bn b0 b1 i (fun i' => o (kn_ i')) (fun _ => o (k0_ ())) (fun c0_ c1_ => o (k1_ c0_ c1_)) = o (T_laws_eqFloat32S_l4 an bn b0 b1 i kn_ k0_ k1_) := by
  unfold T_laws_eqFloat32S_l4
  repeat (first | refine grd_out h0 ?_ | refine br_out ?_ ?_ | rfl | exact h0.symm)
noncomputable def L_laws_eqFloat32S_l4 (an : Nat) (bn : Nat) (b0 : List Nat) (b1 : List Nat) : Nat → Int → Option ((Unit) ⊕ (Int × Bool))
  | 0, _ => none
  | n + 1, i => T_laws_eqFloat32S_l4 an bn b0 b1  i  (fun i' => L_laws_eqFloat32S_l4 an bn b0 b1 n i') (fun _ => some (Sum.inl ())) (fun c0_ c1_ => some (Sum.inr (c0_, c1_)))
theorem L_laws_eqFloat32S_l4_succ (an : Nat) (bn : Nat) (b0 : List Nat) (b1 : List Nat) (n : Nat) (i : Int) : L_laws_eqFloat32S_l4 an bn b0 b1 (n + 1) i = T_laws_eqFloat32S_l4 an bn b0 b1  i  (fun i' => L_laws_eqFloat32S_l4 an bn b0 b1 n i') (fun _ => some (Sum.inl ())) (fun c0_ c1_ => some (Sum.inr (c0_, c1_))) := rfl
noncomputable def laws_eqFloat32S_l4_p (an : Nat) (bn : Nat) (b0 : List Nat) (b1 : List Nat) (i : Int) : Bool := (L_laws_eqFloat32S_l4 an bn b0 b1 big i).isSome
noncomputable def laws_eqFloat32S_l4_w0 (an : Nat) (bn : Nat) (b0 : List Nat) (b1 : List Nat) (i : Int) : Bool := oL (L_laws_eqFloat32S_l4 an bn b0 b1 big i)
noncomputable def laws_eqFloat32S_l4_a1_0 (an : Nat) (bn : Nat) (b0 : List Nat) (b1 : List Nat) (i : Int) : Int := ((tR (L_laws_eqFloat32S_l4 an bn b0 b1 big i)).getD default).1
noncomputable def laws_eqFloat32S_l4_a1_1 (an : Nat) (bn : Nat) (b0 : List Nat) (b1 : List Nat) (i : Int) : Bool := ((tR (L_laws_eqFloat32S_l4 an bn b0 b1 big i)).getD default).2
theorem laws_eqFloat32S_l4_of1 {an : Nat} {bn : Nat} {b0 : List Nat} {b1 : List Nat} {i : Int} {m : Nat} {r : Int × Bool} (hm : m = big) (h : L_laws_eqFloat32S_l4 an bn b0 b1 m i = some (Sum.inr r)) : laws_eqFloat32S_l4_p an bn b0 b1 i = true ∧ laws_eqFloat32S_l4_w0 an bn b0 b1 i = false ∧ laws_eqFloat32S_l4_a1_0 an bn b0 b1 i = r.1 ∧ laws_eqFloat32S_l4_a1_1 an bn b0 b1 i = r.2 := by
  subst hm
  unfold laws_eqFloat32S_l4_p laws_eqFloat32S_l4_w0 laws_eqFloat32S_l4_a1_0 laws_eqFloat32S_l4_a1_1
  rw [h]
  exact ⟨rfl, rfl, rfl, rfl⟩
noncomputable def T_laws_eqFloat32S {R : Type} (a_n : Nat) (a : List Nat) (b_n : Nat) (b : List Nat) (k_ : Bool → Option R) : Option R := (br (neI (Int.ofNat a_n) (Int.ofNat b_n)) (k_ Bool.false) (grd (laws_eqFloat32S_l4_p a_n b_n a b 0) (br (laws_eqFloat32S_l4_w0 a_n b_n a b 0) (k_ Bool.false) (k_ Bool.true))))
noncomputable def F_laws_eqFloat32S (a_n : Nat) (a : List Nat) (b_n : Nat) (b : List Nat) : Option (Bool) := T_laws_eqFloat32S a_n a b_n b (fun c0_ => some c0_)
theorem T_laws_eqFloat32S_nat {R R' : Type} (o : Option R → Option R') (h0 : o none = none) (a_n : Nat) (a : List Nat) (b_n : Nat) (b : List Nat) (k_ : Bool → Option R) : T_laws_eqFloat32S a_n a b_n b (fun c0_ => o (k_ c0_)) = o (T_laws_eqFloat32S a_n a b_n b k_) := by
  unfold T_laws_eqFloat32S
  repeat (first | refine grd_out h0 ?_ | refine br_out ?_ ?_ | rfl | exact h0.symm)
noncomputable def laws_eqFloat32S_p (a_n : Nat) (a : List Nat) (b_n : Nat) (b : List Nat) : Bool := (F_laws_eqFloat32S a_n a b_n b).isSome
noncomputable def laws_eqFloat32S_v0 (a_n : Nat) (a : List Nat) (b_n : Nat) (b : List Nat) : Bool := ((F_laws_eqFloat32S a_n a b_n b).getD default)
theorem laws_eqFloat32S_of {a_n : Nat} {a : List Nat} {b_n : Nat} {b : List Nat} {r : Bool} (h : F_laws_eqFloat32S a_n a b_n b = some r) : laws_eqFloat32S_p a_n a b_n b = true ∧ laws_eqFloat32S_v0 a_n a b_n b = r := by
  unfold laws_eqFloat32S_p laws_eqFloat32S_v0
  rw [h]
  exact ⟨rfl, rfl⟩
noncomputable def T_spec_l04Winds_l2 {R : Type} (listn : Nat) (b0 : List Nat) (i : Int) (kn_ : Int → Option R) (k0_ : Unit → Option R) (k1_ : Int → Bool → Option R) : Option R := (br (ltI i (Int.ofNat listn)) (br (leI (Int.ofNat listn) 256) (grd (okIx i listn) (grd (spec_l02Least_p (gF b0 (ixO 0 i 1))) (br (bnot (spec_l02Least_v0 (gF b0 (ixO 0 i 1)))) (k0_ ()) (kn_ (addI IntKind.i64 i 1))))) (k1_ i (leI (Int.ofNat listn) 256))) (k1_ i Bool.false))
theorem T_spec_l04Winds_l2_nat {R R' : Type} (o : Option R → Option R') (h0 : o none = none) (listn : Nat) (b0 : List Nat) (i : Int) (kn_ : Int → Option R) (k0_ : Unit → Option R) (k1_ : Int → Bool → Option R) : T_spec_l04Winds_l2 listn b0 i (fun i' => o (kn_ i')) (fun _ => o (k0_ ())) (fun c0_ c1_ => o (k1_ c0_ c1_)) = o (T_spec_l04Winds_l2 listn b0 i kn_ k0_ k1_) := by
  unfold T_spec_l04Winds_l2
  repeat (first | refine grd_out h0 ?_ | refine br_out ?_ ?_ | rfl | exact h0.symm)
noncomputable def L_spec_l04Winds_l2 (listn : Nat) (b0 : List Nat) : Nat → Int → Option ((Unit) ⊕ (Int × Bool))
  | 0, _ => none
  | n + 1, i => T_spec_l04Winds_l2 listn b0  i  (fun i' => L_spec_l04Winds_l2 listn b0 n i') (fun _ => some (Sum.inl ())) (fun c0_ c1_ => some (Sum.inr (c0_, c1_)))
theorem L_spec_l04Winds_l2_succ (listn : Nat) (b0 : List Nat) (n : Nat) (i : Int) : L_spec_l04Winds_l2 listn b0 (n + 1) i = T_spec_l04Winds_l2 listn b0  i  (fun i' => L_spec_l04Winds_l2 listn b0 n i') (fun _ => some (Sum.inl ())) (fun c0_ c1_ => some (Sum.inr (c0_, c1_))) := rfl
noncomputable def spec_l04Winds_l2_p (listn : Nat) (b0 : List Nat) (i : Int) : Bool := (L_spec_l04Winds_l2 listn b0 big i).isSome
noncomputable def spec_l04Winds_l2_w0 (listn : Nat) (b0 : List Nat) (i : Int) : Bool := oL (L_spec_l04Winds_l2 listn b0 big i)
noncomputable def spec_l04Winds_l2_a1_0 (listn : Nat) (b0 : List Nat) (i : Int) : Int := ((tR (L_spec_l04Winds_l2 listn b0 big i)).getD default).1
noncomputable def spec_l04Winds_l2_a1_1 (listn : Nat) (b0 : List Nat) (i : Int) : Bool := ((tR (L_spec_l04Winds_l2 listn b0 big i)).getD default).2
theorem spec_l04Winds_l2_of0 {listn : Nat} {b0 : List Nat} {i : Int} {m : Nat} {r : Unit} (hm : m = big) (h : L_spec_l04Winds_l2 listn b0 m i = some (Sum.inl r)) : spec_l04Winds_l2_p listn b0 i = true ∧ spec_l04Winds_l2_w0 listn b0 i = true := by
  subst hm
  unfold spec_l04Winds_l2_p spec_l04Winds_l2_w0
  rw [h]
  exact ⟨rfl, rfl⟩
theorem spec_l04Winds_l2_of1 {listn : Nat} {b0 : List Nat} {i : Int} {m : Nat} {r : Int × Bool} (hm : m = big) (h : L_spec_l04Winds_l2 listn b0 m i = some (Sum.inr r)) : spec_l04Winds_l2_p listn b0 i = true ∧ spec_l04Winds_l2_w0 listn b0 i = false ∧ spec_l04Winds_l2_a1_0 listn b0 i = r.1 ∧ spec_l04Winds_l2_a1_1 listn b0 i = r.2 := by
  subst hm
  unfold spec_l04Winds_l2_p spec_l04Winds_l2_w0 spec_l04Winds_l2_a1_0 spec_l04Winds_l2_a1_1
  rw [h]
  exact ⟨rfl, rfl, rfl, rfl⟩
noncomputable def T_spec_l04Winds {R : Type} (list_n : Nat) (list : List Nat) (k_ : Bool → Option R) : Option R := (grd (spec_l04Winds_l2_p list_n list 0) (br (spec_l04Winds_l2_w0 list_n list 0) (k_ Bool.false) (br (leI 1 (Int.ofNat list_n)) (k_ (leI (Int.ofNat list_n) 256)) (k_ Bool.false))))
noncomputable def F_spec_l04Winds (list_n : Nat) (list : List Nat) : Option (Bool) := T_spec_l04Winds list_n list (fun c0_ => some c0_)
theorem T_spec_l04Winds_nat {R R' : Type} (o : Option R → Option R') (h0 : o none = none) (list_n : Nat) (list : List Nat) (k_ : Bool → Option R) : T_spec_l04Winds list_n list (fun c0_ => o (k_ c0_)) = o (T_spec_l04Winds list_n list k_) := by
  unfold T_spec_l04Winds
  repeat (first | refine grd_out h0 ?_ | refine br_out ?_ ?_ | rfl | exact h0.symm)
noncomputable def spec_l04Winds_p (list_n : Nat) (list : List Nat) : Bool := (F_spec_l04Winds list_n list).isSome
noncomputable def spec_l04Winds_v0 (list_n : Nat) (list : List Nat) : Bool := ((F_spec_l04Winds list_n list).getD default)
theorem spec_l04Winds_of {list_n : Nat} {list : List Nat} {r : Bool} (h : F_spec_l04Winds list_n list = some r) : spec_l04Winds_p list_n list = true ∧ spec_l04Winds_v0 list_n list = r := by
  unfold spec_l04Winds_p spec_l04Winds_v0
  rw [h]
  exact ⟨rfl, rfl⟩
noncomputable def T_slices_IndexFunc_sf32_f32_areLeast_1_l2 {R : Type} (sn : Nat) (t7 : Int) (b0 : List Nat) (t8 : Int) (kn_ : Int → Option R) (k0_ : Int → Option R) (k1_ : Int → Bool → Option R) : Option R := (br (ltI t8 t7) (grd (okIx t8 sn) (grd (impl_areLeast_1_p (gF b0 (ixO 0 t8 1))) (br (impl_areLeast_1_v0 (gF b0 (ixO 0 t8 1))) (k0_ t8) (kn_ (addI IntKind.i64 t8 1))))) (k1_ t8 (ltI t8 t7)))
theorem T_slices_IndexFunc_sf32_f32_areLeast_1_l2_nat {R R' : Type} (o : Option R → Option R') (h0 : o none = none) (sn : Nat) (t7 : Int) (b0 : List Nat) (t8 : Int) (kn_ : Int → Option R) (k0_ : Int → Option R) (k1_ : Int → Bool → Option R) : T_slices_IndexFunc_sf32_f32_areLeast_1_l2 sn t7 b0 t8 (fun t8' => o (kn_ t8')) (fun c0_ => o (k0_ c0_)) (fun c0_ c1_ => o (k1_ c0_ c1_)) = o (T_slices_IndexFunc_sf32_f32_areLeast_1_l2 sn t7 b0 t8 kn_ k0_ k1_) := by
  unfold T_slices_IndexFunc_sf32_f32_areLeast_1_l2
  repeat (first | refine grd_out h0 ?_ | refine br_out ?_ ?_ | rfl | exact h0.symm)
noncomputable def L_slices_IndexFunc_sf32_f32_areLeast_1_l2 (sn : Nat) (t7 : Int) (b0 : List Nat) : Nat → Int → Option ((Int) ⊕ (Int × Bool))
  | 0, _ => none
  | n + 1, t8 => T_slices_IndexFunc_sf32_f32_areLeast_1_l2 sn t7 b0  t8  (fun t8' => L_slices_IndexFunc_sf32_f32_areLeast_1_l2 sn t7 b0 n t8') (fun c0_ => some (Sum.inl c0_)) (fun c0_ c1_ => some (Sum.inr (c0_, c1_)))
theorem L_slices_IndexFunc_sf32_f32_areLeast_1_l2_succ (sn : Nat) (t7 : Int) (b0 : List Nat) (n : Nat) (t8 : Int) : L_slices_IndexFunc_sf32_f32_areLeast_1_l2 sn t7 b0 (n + 1) t8 = T_slices_IndexFunc_sf32_f32_areLeast_1_l2 sn t7 b0  t8  (fun t8' => L_slices_IndexFunc_sf32_f32_areLeast_1_l2 sn t7 b0 n t8') (fun c0_ => some (Sum.inl c0_)) (fun c0_ c1_ => some (Sum.inr (c0_, c1_))) := rfl
noncomputable def slices_IndexFunc_sf32_f32_areLeast_1_l2_p (sn : Nat) (t7 : Int) (b0 : List Nat) (t8 : Int) : Bool := (L_slices_IndexFunc_sf32_f32_areLeast_1_l2 sn t7 b0 big t8).isSome
noncomputable def slices_IndexFunc_sf32_f32_areLeast_1_l2_w0 (sn : Nat) (t7 : Int) (b0 : List Nat) (t8 : Int) : Bool := oL (L_slices_IndexFunc_sf32_f32_areLeast_1_l2 sn t7 b0 big t8)
noncomputable def slices_IndexFunc_sf32_f32_areLeast_1_l2_a0_0 (sn : Nat) (t7 : Int) (b0 : List Nat) (t8 : Int) : Int := ((tL (L_slices_IndexFunc_sf32_f32_areLeast_1_l2 sn t7 b0 big t8)).getD default)
noncomputable def slices_IndexFunc_sf32_f32_areLeast_1_l2_a1_0 (sn : Nat) (t7 : Int) (b0 : List Nat) (t8 : Int) : Int := ((tR (L_slices_IndexFunc_sf32_f32_areLeast_1_l2 sn t7 b0 big t8)).getD default).1
noncomputable def slices_IndexFunc_sf32_f32_areLeast_1_l2_a1_1 (sn : Nat) (t7 : Int) (b0 : List Nat) (t8 : Int) : Bool := ((tR (L_slices_IndexFunc_sf32_f32_areLeast_1_l2 sn t7 b0 big t8)).getD default).2
theorem slices_IndexFunc_sf32_f32_areLeast_1_l2_of0 {sn : Nat} {t7 : Int} {b0 : List Nat} {t8 : Int} {m : Nat} {r : Int} (hm : m = big) (h : L_slices_IndexFunc_sf32_f32_areLeast_1_l2 sn t7 b0 m t8 = some (Sum.inl r)) : slices_IndexFunc_sf32_f32_areLeast_1_l2_p sn t7 b0 t8 = true ∧ slices_IndexFunc_sf32_f32_areLeast_1_l2_w0 sn t7 b0 t8 = true ∧ slices_IndexFunc_sf32_f32_areLeast_1_l2_a0_0 sn t7 b0 t8 = r := by
  subst hm
  unfold slices_IndexFunc_sf32_f32_areLeast_1_l2_p slices_IndexFunc_sf32_f32_areLeast_1_l2_w0 slices_IndexFunc_sf32_f32_areLeast_1_l2_a0_0
  rw [h]
  exact ⟨rfl, rfl, rfl⟩
theorem slices_IndexFunc_sf32_f32_areLeast_1_l2_of1 {sn : Nat} {t7 : Int} {b0 : List Nat} {t8 : Int} {m : Nat} {r : Int × Bool} (hm : m = big) (h : L_slices_IndexFunc_sf32_f32_areLeast_1_l2 sn t7 b0 m t8 = some (Sum.inr r)) : slices_IndexFunc_sf32_f32_areLeast_1_l2_p sn t7 b0 t8 = true ∧ slices_IndexFunc_sf32_f32_areLeast_1_l2_w0 sn t7 b0 t8 = false ∧ slices_IndexFunc_sf32_f32_areLeast_1_l2_a1_0 sn t7 b0 t8 = r.1 ∧ slices_IndexFunc_sf32_f32_areLeast_1_l2_a1_1 sn t7 b0 t8 = r.2 := by
  subst hm
  unfold slices_IndexFunc_sf32_f32_areLeast_1_l2_p slices_IndexFunc_sf32_f32_areLeast_1_l2_w0 slices_IndexFunc_sf32_f32_areLeast_1_l2_a1_0 slices_IndexFunc_sf32_f32_areLeast_1_l2_a1_1
  rw [h]
  exact ⟨rfl, rfl, rfl, rfl⟩
noncomputable def T_slices_IndexFunc_sf32_f32_areLeast_1 {R : Type} (s_n : Nat) (s : List Nat) (k_ : Int → Option R) : Option R := (grd (slices_IndexFunc_sf32_f32_areLeast_1_l2_p s_n (Int.ofNat s_n) s 0) (br (slices_IndexFunc_sf32_f32_areLeast_1_l2_w0 s_n (Int.ofNat s_n) s 0) (k_ (slices_IndexFunc_sf32_f32_areLeast_1_l2_a0_0 s_n (Int.ofNat s_n) s 0)) (k_ (Int.negSucc 0))))
noncomputable def F_slices_IndexFunc_sf32_f32_areLeast_1 (s_n : Nat) (s : List Nat) : Option (Int) := T_slices_IndexFunc_sf32_f32_areLeast_1 s_n s (fun c0_ => some c0_)
theorem T_slices_IndexFunc_sf32_f32_areLeast_1_nat {R R' : Type} (o : Option R → Option R') (h0 : o none = none) (s_n : Nat) (s : List Nat) (k_ : Int → Option R) : T_slices_IndexFunc_sf32_f32_areLeast_1 s_n s (fun c0_ => o (k_ c0_)) = o (T_slices_IndexFunc_sf32_f32_areLeast_1 s_n s k_) := by
  unfold T_slices_IndexFunc_sf32_f32_areLeast_1
  repeat (first | refine grd_out h0 ?_ | refine br_out ?_ ?_ | rfl | exact h0.symm)
noncomputable def slices_IndexFunc_sf32_f32_areLeast_1_p (s_n : Nat) (s : List Nat) : Bool := (F_slices_IndexFunc_sf32_f32_areLeast_1 s_n s).isSome
noncomputable def slices_IndexFunc_sf32_f32_areLeast_1_v0 (s_n : Nat) (s : List Nat) : Int := ((F_slices_IndexFunc_sf32_f32_areLeast_1 s_n s).getD default)
theorem slices_IndexFunc_sf32_f32_areLeast_1_of {s_n : Nat} {s : List Nat} {r : Int} (h : F_slices_IndexFunc_sf32_f32_areLeast_1 s_n s = some r) : slices_IndexFunc_sf32_f32_areLeast_1_p s_n s = true ∧ slices_IndexFunc_sf32_f32_areLeast_1_v0 s_n s = r := by
  unfold slices_IndexFunc_sf32_f32_areLeast_1_p slices_IndexFunc_sf32_f32_areLeast_1_v0
  rw [h]
  exact ⟨rfl, rfl⟩
noncomputable def T_slices_ContainsFunc_sf32_f32_areLeast_1 {R : Type} (s_n : Nat) (s : List Nat) (k_ : Bool → Option R) : Option R := (grd (slices_IndexFunc_sf32_f32_areLeast_1_p s_n (pF s 0 (muN s_n 1))) (k_ (leI 0 (slices_IndexFunc_sf32_f32_areLeast_1_v0 s_n (pF s 0 (muN s_n 1))))))
noncomputable def F_slices_ContainsFunc_sf32_f32_areLeast_1 (s_n : Nat) (s : List Nat) : Option (Bool) := T_slices_ContainsFunc_sf32_f32_areLeast_1 s_n s (fun c0_ => some c0_)
theorem T_slices_ContainsFunc_sf32_f32_areLeast_1_nat {R R' : Type} (o : Option R → Option R') (h0 : o none = none) (s_n : Nat) (s : List Nat) (k_ : Bool → Option R) : T_slices_ContainsFunc_sf32_f32_areLeast_1 s_n s (fun c0_ => o (k_ c0_)) = o (T_slices_ContainsFunc_sf32_f32_areLeast_1 s_n s k_) := by
  unfold T_slices_ContainsFunc_sf32_f32_areLeast_1
  repeat (first | refine grd_out h0 ?_ | refine br_out ?_ ?_ | rfl | exact h0.symm)
noncomputable def slices_ContainsFunc_sf32_f32_areLeast_1_p (s_n : Nat) (s : List Nat) : Bool := (F_slices_ContainsFunc_sf32_f32_areLeast_1 s_n s).isSome
noncomputable def slices_ContainsFunc_sf32_f32_areLeast_1_v0 (s_n : Nat) (s : List Nat) : Bool := ((F_slices_ContainsFunc_sf32_f32_areLeast_1 s_n s).getD default)
theorem slices_ContainsFunc_sf32_f32_areLeast_1_of {s_n : Nat} {s : List Nat} {r : Bool} (h : F_slices_ContainsFunc_sf32_f32_areLeast_1 s_n s = some r) : slices_ContainsFunc_sf32_f32_areLeast_1_p s_n s = true ∧ slices_ContainsFunc_sf32_f32_areLeast_1_v0 s_n s = r := by
  unfold slices_ContainsFunc_sf32_f32_areLeast_1_p slices_ContainsFunc_sf32_f32_areLeast_1_v0
  rw [h]
  exact ⟨rfl, rfl⟩
noncomputable def T_spec_CalmsOf_l7 {R : Type} (listn : Nat) (level : Nat) (b0 : List Nat) (n_ : Int) (long : Int) (most : Int) (i : Int) (kn_ : Int → Int → Int → Int → Option R) (k0_ : Int → Int → Int → Int → Bool → Option R) : Option R := (br (ltI i (Int.ofNat listn)) (grd (okIx i listn) (br (bnot (fcmp BinOp.lss FloatKind.f32 (gF b0 (ixO 0 i 1)) level)) (kn_ n_ 0 most (addI IntKind.i64 i 1)) (br (eqI long 0) (grd (spec_l00Max_p most (addI IntKind.i64 long 1)) (kn_ (addI IntKind.i64 n_ 1) (addI IntKind.i64 long 1) (spec_l00Max_v0 most (addI IntKind.i64 long 1)) (addI IntKind.i64 i 1))) (grd (spec_l00Max_p most (addI IntKind.i64 long 1)) (kn_ n_ (addI IntKind.i64 long 1) (spec_l00Max_v0 most (addI IntKind.i64 long 1)) (addI IntKind.i64 i 1)))))) (k0_ n_ long most i (ltI i (Int.ofNat listn))))
theorem T_spec_CalmsOf_l7_nat {R R' : Type} (o : Option R → Option R') (h0 : o none = none) (listn : Nat) (level : Nat) (b0 : List Nat) (n_ : Int) (long : Int) (most : Int) (i : Int) (kn_ : Int → Int → Int → Int → Option R) (k0_ : Int → Int → Int → Int → Bool → Option R) : T_spec_CalmsOf_l7 listn level b0 n_ long most i (fun n_' long' most' i' => o (kn_ n_' long' most' i')) (fun c0_ c1_ c2_ c3_ c4_ => o (k0_ c0_ c1_ c2_ c3_ c4_)) = o (T_spec_CalmsOf_l7 listn level b0 n_ long most i kn_ k0_) := by
  unfold T_spec_CalmsOf_l7
  repeat (first | refine grd_out h0 ?_ | refine br_out ?_ ?_ | rfl | exact h0.symm)
noncomputable def L_spec_CalmsOf_l7 (listn : Nat) (level : Nat) (b0 : List Nat) : Nat → Int → Int → Int → Int → Option ((Int × Int × Int × Int × Bool))
  | 0, _, _, _, _ => none
  | n + 1, n_, long, most, i => T_spec_CalmsOf_l7 listn level b0  n_ long most i  (fun n_' long' most' i' => L_spec_CalmsOf_l7 listn level b0 n n_' long' most' i') (fun c0_ c1_ c2_ c3_ c4_ => some (c0_, c1_, c2_, c3_, c4_))
theorem L_spec_CalmsOf_l7_succ (listn : Nat) (level : Nat) (b0 : List Nat) (n : Nat) (n_ : Int) (long : Int) (most : Int) (i : Int) : L_spec_CalmsOf_l7 listn level b0 (n + 1) n_ long most i = T_spec_CalmsOf_l7 listn level b0  n_ long most i  (fun n_' long' most' i' => L_spec_CalmsOf_l7 listn level b0 n n_' long' most' i') (fun c0_ c1_ c2_ c3_ c4_ => some (c0_, c1_, c2_, c3_, c4_)) := rfl
noncomputable def spec_CalmsOf_l7_p (listn : Nat) (level : Nat) (b0 : List Nat) (n_ : Int) (long : Int) (most : Int) (i : Int) : Bool := (L_spec_CalmsOf_l7 listn level b0 big n_ long most i).isSome
noncomputable def spec_CalmsOf_l7_a0_0 (listn : Nat) (level : Nat) (b0 : List Nat) (n_ : Int) (long : Int) (most : Int) (i : Int) : Int := ((L_spec_CalmsOf_l7 listn level b0 big n_ long most i).getD default).1
noncomputable def spec_CalmsOf_l7_a0_1 (listn : Nat) (level : Nat) (b0 : List Nat) (n_ : Int) (long : Int) (most : Int) (i : Int) : Int := ((L_spec_CalmsOf_l7 listn level b0 big n_ long most i).getD default).2.1
noncomputable def spec_CalmsOf_l7_a0_2 (listn : Nat) (level : Nat) (b0 : List Nat) (n_ : Int) (long : Int) (most : Int) (i : Int) : Int := ((L_spec_CalmsOf_l7 listn level b0 big n_ long most i).getD default).2.2.1
noncomputable def spec_CalmsOf_l7_a0_3 (listn : Nat) (level : Nat) (b0 : List Nat) (n_ : Int) (long : Int) (most : Int) (i : Int) : Int := ((L_spec_CalmsOf_l7 listn level b0 big n_ long most i).getD default).2.2.2.1
noncomputable def spec_CalmsOf_l7_a0_4 (listn : Nat) (level : Nat) (b0 : List Nat) (n_ : Int) (long : Int) (most : Int) (i : Int) : Bool := ((L_spec_CalmsOf_l7 listn level b0 big n_ long most i).getD default).2.2.2.2
theorem spec_CalmsOf_l7_of0 {listn : Nat} {level : Nat} {b0 : List Nat} {n_ : Int} {long : Int} {most : Int} {i : Int} {m : Nat} {r : Int × Int × Int × Int × Bool} (hm : m = big) (h : L_spec_CalmsOf_l7 listn level b0 m n_ long most i = some r) : spec_CalmsOf_l7_p listn level b0 n_ long most i = true ∧ spec_CalmsOf_l7_a0_0 listn level b0 n_ long most i = r.1 ∧ spec_CalmsOf_l7_a0_1 listn level b0 n_ long most i = r.2.1 ∧ spec_CalmsOf_l7_a0_2 listn level b0 n_ long most i = r.2.2.1 ∧ spec_CalmsOf_l7_a0_3 listn level b0 n_ long most i = r.2.2.2.1 ∧ spec_CalmsOf_l7_a0_4 listn level b0 n_ long most i = r.2.2.2.2 := by
  subst hm
  unfold spec_CalmsOf_l7_p spec_CalmsOf_l7_a0_0 spec_CalmsOf_l7_a0_1 spec_CalmsOf_l7_a0_2 spec_CalmsOf_l7_a0_3 spec_CalmsOf_l7_a0_4
  rw [h]
  exact ⟨rfl, rfl, rfl, rfl, rfl, rfl⟩
noncomputable def T_spec_CalmsOf {R : Type} (list_n : Nat) (list : List Nat) (level : Nat) (k_ : Int → Int → Bool → Option R) : Option R := (grd (spec_l04Winds_p list_n (pF list 0 (muN list_n 1))) (br (bnot (spec_l04Winds_v0 list_n (pF list 0 (muN list_n 1)))) (k_ 0 0 Bool.false) (grd (spec_CalmsOf_l7_p list_n level list 0 0 0 0) (k_ (spec_CalmsOf_l7_a0_0 list_n level list 0 0 0 0) (spec_CalmsOf_l7_a0_2 list_n level list 0 0 0 0) Bool.true))))
noncomputable def F_spec_CalmsOf (list_n : Nat) (list : List Nat) (level : Nat) : Option (Int × Int × Bool) := T_spec_CalmsOf list_n list level (fun c0_ c1_ c2_ => some (c0_, c1_, c2_))
theorem T_spec_CalmsOf_nat {R R' : Type} (o : Option R → Option R') (h0 : o none = none) (list_n : Nat) (list : List Nat) (level : Nat) (k_ : Int → Int → Bool → Option R) : T_spec_CalmsOf list_n list level (fun c0_ c1_ c2_ => o (k_ c0_ c1_ c2_)) = o (T_spec_CalmsOf list_n list level k_) := by
  unfold T_spec_CalmsOf
  repeat (first | refine grd_out h0 ?_ | refine br_out ?_ ?_ | rfl | exact h0.symm)
noncomputable def spec_CalmsOf_p (list_n : Nat) (list : List Nat) (level : Nat) : Bool := (F_spec_CalmsOf list_n list level).isSome
noncomputable def spec_CalmsOf_v0 (list_n : Nat) (list : List Nat) (level : Nat) : Int := ((F_spec_CalmsOf list_n list level).getD default).1
noncomputable def spec_CalmsOf_v1 (list_n : Nat) (list : List Nat) (level : Nat) : Int := ((F_spec_CalmsOf list_n list level).getD default).2.1
noncomputable def spec_CalmsOf_v2 (list_n : Nat) (list : List Nat) (level : Nat) : Bool := ((F_spec_CalmsOf list_n list level).getD default).2.2
theorem spec_CalmsOf_of {list_n : Nat} {list : List Nat} {level : Nat} {r : Int × Int × Bool} (h : F_spec_CalmsOf list_n list level = some r) : spec_CalmsOf_p list_n list level = true ∧ spec_CalmsOf_v0 list_n list level = r.1 ∧ spec_CalmsOf_v1 list_n list level = r.2.1 ∧ spec_CalmsOf_v2 list_n list level = r.2.2 := by
  unfold spec_CalmsOf_p spec_CalmsOf_v0 spec_CalmsOf_v1 spec_CalmsOf_v2
  rw [h]
  exact ⟨rfl, rfl, rfl, rfl⟩
noncomputable def T_impl_areLeast {R : Type} (list_n : Nat) (list : List Nat) (k_ : Bool → Option R) : Option R := (grd (slices_ContainsFunc_sf32_f32_areLeast_1_p list_n (pF list 0 (muN list_n 1))) (k_ (bnot (slices_ContainsFunc_sf32_f32_areLeast_1_v0 list_n (pF list 0 (muN list_n 1))))))
noncomputable def F_impl_areLeast (list_n : Nat) (list : List Nat) : Option (Bool) := T_impl_areLeast list_n list (fun c0_ => some c0_)
theorem T_impl_areLeast_nat {R R' : Type} (o : Option R → Option R') (h0 : o none = none) (list_n : Nat) (list : List Nat) (k_ : Bool → Option R) : T_impl_areLeast list_n list (fun c0_ => o (k_ c0_)) = o (T_impl_areLeast list_n list k_) := by
  unfold T_impl_areLeast
  repeat (first | refine grd_out h0 ?_ | refine br_out ?_ ?_ | rfl | exact h0.symm)
noncomputable def impl_areLeast_p (list_n : Nat) (list : List Nat) : Bool := (F_impl_areLeast list_n list).isSome
noncomputable def impl_areLeast_v0 (list_n : Nat) (list : List Nat) : Bool := ((F_impl_areLeast list_n list).getD default)
theorem impl_areLeast_of {list_n : Nat} {list : List Nat} {r : Bool} (h : F_impl_areLeast list_n list = some r) : impl_areLeast_p list_n list = true ∧ impl_areLeast_v0 list_n list = r := by
  unfold impl_areLeast_p impl_areLeast_v0
  rw [h]
  exact ⟨rfl, rfl⟩
noncomputable def T_impl_areWinds {R : Type} (list_n : Nat) (list : List Nat) (k_ : Bool → Option R) : Option R := (br (leI 1 (Int.ofNat list_n)) (br (leI (Int.ofNat list_n) 256) (grd (impl_areLeast_p list_n (pF list 0 (muN list_n 1))) (k_ (impl_areLeast_v0 list_n (pF list 0 (muN list_n 1))))) (k_ Bool.false)) (k_ Bool.false))
noncomputable def F_impl_areWinds (list_n : Nat) (list : List Nat) : Option (Bool) := T_impl_areWinds list_n list (fun c0_ => some c0_)
theorem T_impl_areWinds_nat {R R' : Type} (o : Option R → Option R') (h0 : o none = none) (list_n : Nat) (list : List Nat) (k_ : Bool → Option R) : T_impl_areWinds list_n list (fun c0_ => o (k_ c0_)) = o (T_impl_areWinds list_n list k_) := by
  unfold T_impl_areWinds
  repeat (first | refine grd_out h0 ?_ | refine br_out ?_ ?_ | rfl | exact h0.symm)
noncomputable def impl_areWinds_p (list_n : Nat) (list : List Nat) : Bool := (F_impl_areWinds list_n list).isSome
noncomputable def impl_areWinds_v0 (list_n : Nat) (list : List Nat) : Bool := ((F_impl_areWinds list_n list).getD default)
theorem impl_areWinds_of {list_n : Nat} {list : List Nat} {r : Bool} (h : F_impl_areWinds list_n list = some r) : impl_areWinds_p list_n list = true ∧ impl_areWinds_v0 list_n list = r := by
  unfold impl_areWinds_p impl_areWinds_v0
  rw [h]
  exact ⟨rfl, rfl⟩
noncomputable def T_impl_CalmsOf_l5 {R : Type} (level : Nat) (t15n : Nat) (t16 : Int) (b0 : List Nat) (times : Int) (longest : Int) (own : Int) (t17 : Int) (kn_ : Int → Int → Int → Int → Option R) (k0_ : Int → Int → Int → Int → Bool → Option R) : Option R := (br (ltI t17 t16) (grd (okIx t17 t15n) (br (bnot (fcmp BinOp.lss FloatKind.f32 (gF b0 (ixO 0 t17 1)) level)) (kn_ times longest 0 (addI IntKind.i64 t17 1)) (br (eqI own 0) (kn_ (addI IntKind.i64 times 1) (maI longest (addI IntKind.i64 own 1)) (addI IntKind.i64 own 1) (addI IntKind.i64 t17 1)) (kn_ times (maI longest (addI IntKind.i64 own 1)) (addI IntKind.i64 own 1) (addI IntKind.i64 t17 1))))) (k0_ times longest own t17 (ltI t17 t16)))
theorem T_impl_CalmsOf_l5_nat {R R' : Type} (o : Option R → Option R') (h0 : o none = none) (level : Nat) (t15n : Nat) (t16 : Int) (b0 : List Nat) (times : Int) (longest : Int) (own : Int) (t17 : Int) (kn_ : Int → Int → Int → Int → Option R) (k0_ : Int → Int → Int → Int → Bool → Option R) : T_impl_CalmsOf_l5 level t15n t16 b0 times longest own t17 (fun times' longest' own' t17' => o (kn_ times' longest' own' t17')) (fun c0_ c1_ c2_ c3_ c4_ => o (k0_ c0_ c1_ c2_ c3_ c4_)) = o (T_impl_CalmsOf_l5 level t15n t16 b0 times longest own t17 kn_ k0_) := by
  unfold T_impl_CalmsOf_l5
  repeat (first | refine grd_out h0 ?_ | refine br_out ?_ ?_ | rfl | exact h0.symm)
noncomputable def L_impl_CalmsOf_l5 (level : Nat) (t15n : Nat) (t16 : Int) (b0 : List Nat) : Nat → Int → Int → Int → Int → Option ((Int × Int × Int × Int × Bool))
  | 0, _, _, _, _ => none
  | n + 1, times, longest, own, t17 => T_impl_CalmsOf_l5 level t15n t16 b0  times longest own t17  (fun times' longest' own' t17' => L_impl_CalmsOf_l5 level t15n t16 b0 n times' longest' own' t17') (fun c0_ c1_ c2_ c3_ c4_ => some (c0_, c1_, c2_, c3_, c4_))
theorem L_impl_CalmsOf_l5_succ (level : Nat) (t15n : Nat) (t16 : Int) (b0 : List Nat) (n : Nat) (times : Int) (longest : Int) (own : Int) (t17 : Int) : L_impl_CalmsOf_l5 level t15n t16 b0 (n + 1) times longest own t17 = T_impl_CalmsOf_l5 level t15n t16 b0  times longest own t17  (fun times' longest' own' t17' => L_impl_CalmsOf_l5 level t15n t16 b0 n times' longest' own' t17') (fun c0_ c1_ c2_ c3_ c4_ => some (c0_, c1_, c2_, c3_, c4_)) := rfl
noncomputable def impl_CalmsOf_l5_p (level : Nat) (t15n : Nat) (t16 : Int) (b0 : List Nat) (times : Int) (longest : Int) (own : Int) (t17 : Int) : Bool := (L_impl_CalmsOf_l5 level t15n t16 b0 big times longest own t17).isSome
noncomputable def impl_CalmsOf_l5_a0_0 (level : Nat) (t15n : Nat) (t16 : Int) (b0 : List Nat) (times : Int) (longest : Int) (own : Int) (t17 : Int) : Int := ((L_impl_CalmsOf_l5 level t15n t16 b0 big times longest own t17).getD default).1
noncomputable def impl_CalmsOf_l5_a0_1 (level : Nat) (t15n : Nat) (t16 : Int) (b0 : List Nat) (times : Int) (longest : Int) (own : Int) (t17 : Int) : Int := ((L_impl_CalmsOf_l5 level t15n t16 b0 big times longest own t17).getD default).2.1
noncomputable def impl_CalmsOf_l5_a0_2 (level : Nat) (t15n : Nat) (t16 : Int) (b0 : List Nat) (times : Int) (longest : Int) (own : Int) (t17 : Int) : Int := ((L_impl_CalmsOf_l5 level t15n t16 b0 big times longest own t17).getD default).2.2.1
noncomputable def impl_CalmsOf_l5_a0_3 (level : Nat) (t15n : Nat) (t16 : Int) (b0 : List Nat) (times : Int) (longest : Int) (own : Int) (t17 : Int) : Int := ((L_impl_CalmsOf_l5 level t15n t16 b0 big times longest own t17).getD default).2.2.2.1
noncomputable def impl_CalmsOf_l5_a0_4 (level : Nat) (t15n : Nat) (t16 : Int) (b0 : List Nat) (times : Int) (longest : Int) (own : Int) (t17 : Int) : Bool := ((L_impl_CalmsOf_l5 level t15n t16 b0 big times longest own t17).getD default).2.2.2.2
theorem impl_CalmsOf_l5_of0 {level : Nat} {t15n : Nat} {t16 : Int} {b0 : List Nat} {times : Int} {longest : Int} {own : Int} {t17 : Int} {m : Nat} {r : Int × Int × Int × Int × Bool} (hm : m = big) (h : L_impl_CalmsOf_l5 level t15n t16 b0 m times longest own t17 = some r) : impl_CalmsOf_l5_p level t15n t16 b0 times longest own t17 = true ∧ impl_CalmsOf_l5_a0_0 level t15n t16 b0 times longest own t17 = r.1 ∧ impl_CalmsOf_l5_a0_1 level t15n t16 b0 times longest own t17 = r.2.1 ∧ impl_CalmsOf_l5_a0_2 level t15n t16 b0 times longest own t17 = r.2.2.1 ∧ impl_CalmsOf_l5_a0_3 level t15n t16 b0 times longest own t17 = r.2.2.2.1 ∧ impl_CalmsOf_l5_a0_4 level t15n t16 b0 times longest own t17 = r.2.2.2.2 := by
  subst hm
  unfold impl_CalmsOf_l5_p impl_CalmsOf_l5_a0_0 impl_CalmsOf_l5_a0_1 impl_CalmsOf_l5_a0_2 impl_CalmsOf_l5_a0_3 impl_CalmsOf_l5_a0_4
  rw [h]
  exact ⟨rfl, rfl, rfl, rfl, rfl, rfl⟩
noncomputable def T_impl_CalmsOf {R : Type} (list_n : Nat) (list : List Nat) (level : Nat) (k_ : Int → Int → Bool → Option R) : Option R := (grd (impl_areWinds_p list_n (pF list 0 (muN list_n 1))) (br (bnot (impl_areWinds_v0 list_n (pF list 0 (muN list_n 1)))) (k_ 0 0 Bool.false) (grd (impl_CalmsOf_l5_p level list_n (Int.ofNat list_n) list 0 0 0 0) (k_ (impl_CalmsOf_l5_a0_0 level list_n (Int.ofNat list_n) list 0 0 0 0) (impl_CalmsOf_l5_a0_1 level list_n (Int.ofNat list_n) list 0 0 0 0) Bool.true))))
noncomputable def F_impl_CalmsOf (list_n : Nat) (list : List Nat) (level : Nat) : Option (Int × Int × Bool) := T_impl_CalmsOf list_n list level (fun c0_ c1_ c2_ => some (c0_, c1_, c2_))
theorem T_impl_CalmsOf_nat {R R' : Type} (o : Option R → Option R') (h0 : o none = none) (list_n : Nat) (list : List Nat) (level : Nat) (k_ : Int → Int → Bool → Option R) : T_impl_CalmsOf list_n list level (fun c0_ c1_ c2_ => o (k_ c0_ c1_ c2_)) = o (T_impl_CalmsOf list_n list level k_) := by
  unfold T_impl_CalmsOf
  repeat (first | refine grd_out h0 ?_ | refine br_out ?_ ?_ | rfl | exact h0.symm)
noncomputable def impl_CalmsOf_p (list_n : Nat) (list : List Nat) (level : Nat) : Bool := (F_impl_CalmsOf list_n list level).isSome
noncomputable def impl_CalmsOf_v0 (list_n : Nat) (list : List Nat) (level : Nat) : Int := ((F_impl_CalmsOf list_n list level).getD default).1
noncomputable def impl_CalmsOf_v1 (list_n : Nat) (list : List Nat) (level : Nat) : Int := ((F_impl_CalmsOf list_n list level).getD default).2.1
noncomputable def impl_CalmsOf_v2 (list_n : Nat) (list : List Nat) (level : Nat) : Bool := ((F_impl_CalmsOf list_n list level).getD default).2.2
theorem impl_CalmsOf_of {list_n : Nat} {list : List Nat} {level : Nat} {r : Int × Int × Bool} (h : F_impl_CalmsOf list_n list level = some r) : impl_CalmsOf_p list_n list level = true ∧ impl_CalmsOf_v0 list_n list level = r.1 ∧ impl_CalmsOf_v1 list_n list level = r.2.1 ∧ impl_CalmsOf_v2 list_n list level = r.2.2 := by
  unfold impl_CalmsOf_p impl_CalmsOf_v0 impl_CalmsOf_v1 impl_CalmsOf_v2
  rw [h]
  exact ⟨rfl, rfl, rfl, rfl⟩
noncomputable def T_laws_FnExactCalmsOf {R : Type} (aList_n : Nat) (aList : List Nat) (aLevel : Nat) (k_ : Bool → Option R) : Option R := (br (ltI 1048576 (Int.ofNat aList_n)) (k_ Bool.true) (grd (laws_toFloat32S_p aList_n (pF aList 0 (muN aList_n 1))) (grd (spec_CalmsOf_p (laws_toFloat32S_v0 aList_n (pF aList 0 (muN aList_n 1))) (pF (laws_toFloat32S_v1 aList_n (pF aList 0 (muN aList_n 1))) 0 (muN (laws_toFloat32S_v0 aList_n (pF aList 0 (muN aList_n 1))) 1)) aLevel) (grd (laws_toFloat32S_p aList_n (pF aList 0 (muN aList_n 1))) (grd (impl_CalmsOf_p (laws_toFloat32S_v0 aList_n (pF aList 0 (muN aList_n 1))) (pF (laws_toFloat32S_v1 aList_n (pF aList 0 (muN aList_n 1))) 0 (muN (laws_toFloat32S_v0 aList_n (pF aList 0 (muN aList_n 1))) 1)) aLevel) (br (neI (impl_CalmsOf_v0 (laws_toFloat32S_v0 aList_n (pF aList 0 (muN aList_n 1))) (pF (laws_toFloat32S_v1 aList_n (pF aList 0 (muN aList_n 1))) 0 (muN (laws_toFloat32S_v0 aList_n (pF aList 0 (muN aList_n 1))) 1)) aLevel) (spec_CalmsOf_v0 (laws_toFloat32S_v0 aList_n (pF aList 0 (muN aList_n 1))) (pF (laws_toFloat32S_v1 aList_n (pF aList 0 (muN aList_n 1))) 0 (muN (laws_toFloat32S_v0 aList_n (pF aList 0 (muN aList_n 1))) 1)) aLevel)) (k_ Bool.false) (br (neI (impl_CalmsOf_v1 (laws_toFloat32S_v0 aList_n (pF aList 0 (muN aList_n 1))) (pF (laws_toFloat32S_v1 aList_n (pF aList 0 (muN aList_n 1))) 0 (muN (laws_toFloat32S_v0 aList_n (pF aList 0 (muN aList_n 1))) 1)) aLevel) (spec_CalmsOf_v1 (laws_toFloat32S_v0 aList_n (pF aList 0 (muN aList_n 1))) (pF (laws_toFloat32S_v1 aList_n (pF aList 0 (muN aList_n 1))) 0 (muN (laws_toFloat32S_v0 aList_n (pF aList 0 (muN aList_n 1))) 1)) aLevel)) (k_ Bool.false) (br (bnot (beqB (impl_CalmsOf_v2 (laws_toFloat32S_v0 aList_n (pF aList 0 (muN aList_n 1))) (pF (laws_toFloat32S_v1 aList_n (pF aList 0 (muN aList_n 1))) 0 (muN (laws_toFloat32S_v0 aList_n (pF aList 0 (muN aList_n 1))) 1)) aLevel) (spec_CalmsOf_v2 (laws_toFloat32S_v0 aList_n (pF aList 0 (muN aList_n 1))) (pF (laws_toFloat32S_v1 aList_n (pF aList 0 (muN aList_n 1))) 0 (muN (laws_toFloat32S_v0 aList_n (pF aList 0 (muN aList_n 1))) 1)) aLevel))) (k_ Bool.false) (grd (laws_toFloat32S_p aList_n (pF aList 0 (muN aList_n 1))) (grd (laws_eqFloat32S_p (laws_toFloat32S_v0 aList_n (pF aList 0 (muN aList_n 1))) (pF (laws_toFloat32S_v1 aList_n (pF aList 0 (muN aList_n 1))) 0 (muN (laws_toFloat32S_v0 aList_n (pF aList 0 (muN aList_n 1))) 1)) (laws_toFloat32S_v0 aList_n (pF aList 0 (muN aList_n 1))) (pF (laws_toFloat32S_v1 aList_n (pF aList 0 (muN aList_n 1))) 0 (muN (laws_toFloat32S_v0 aList_n (pF aList 0 (muN aList_n 1))) 1))) (br (bnot (laws_eqFloat32S_v0 (laws_toFloat32S_v0 aList_n (pF aList 0 (muN aList_n 1))) (pF (laws_toFloat32S_v1 aList_n (pF aList 0 (muN aList_n 1))) 0 (muN (laws_toFloat32S_v0 aList_n (pF aList 0 (muN aList_n 1))) 1)) (laws_toFloat32S_v0 aList_n (pF aList 0 (muN aList_n 1))) (pF (laws_toFloat32S_v1 aList_n (pF aList 0 (muN aList_n 1))) 0 (muN (laws_toFloat32S_v0 aList_n (pF aList 0 (muN aList_n 1))) 1)))) (k_ Bool.false) (k_ Bool.true))))))))))))
noncomputable def F_laws_FnExactCalmsOf (aList_n : Nat) (aList : List Nat) (aLevel : Nat) : Option (Bool) := T_laws_FnExactCalmsOf aList_n aList aLevel (fun c0_ => some c0_)
theorem T_laws_FnExactCalmsOf_nat {R R' : Type} (o : Option R → Option R') (h0 : o none = none) (aList_n : Nat) (aList : List Nat) (aLevel : Nat) (k_ : Bool → Option R) : T_laws_FnExactCalmsOf aList_n aList aLevel (fun c0_ => o (k_ c0_)) = o (T_laws_FnExactCalmsOf aList_n aList aLevel k_) := by
  unfold T_laws_FnExactCalmsOf
  repeat (first | refine grd_out h0 ?_ | refine br_out ?_ ?_ | rfl | exact h0.symm)
noncomputable def laws_FnExactCalmsOf_p (aList_n : Nat) (aList : List Nat) (aLevel : Nat) : Bool := (F_laws_FnExactCalmsOf aList_n aList aLevel).isSome
noncomputable def laws_FnExactCalmsOf_v0 (aList_n : Nat) (aList : List Nat) (aLevel : Nat) : Bool := ((F_laws_FnExactCalmsOf aList_n aList aLevel).getD default)
theorem laws_FnExactCalmsOf_of {aList_n : Nat} {aList : List Nat} {aLevel : Nat} {r : Bool} (h : F_laws_FnExactCalmsOf aList_n aList aLevel = some r) : laws_FnExactCalmsOf_p aList_n aList aLevel = true ∧ laws_FnExactCalmsOf_v0 aList_n aList aLevel = r := by
  unfold laws_FnExactCalmsOf_p laws_FnExactCalmsOf_v0
  rw [h]
  exact ⟨rfl, rfl⟩
end Go.Rf
