import Derived.Test.YtohhkgieggfpeabB
set_option linter.unusedVariables false
set_option linter.unusedSimpArgs false
set_option maxRecDepth 100000
set_option maxHeartbeats 4000000
namespace Go.Rf
open Go
noncomputable def T_laws_sameFloat {R : Type} (a : Nat) (b : Nat) (k_ : Bool → Option R) : Option R := (br (fcmp BinOp.neq FloatKind.f64 a a) (br (fcmp BinOp.neq FloatKind.f64 a a) (k_ (fcmp BinOp.neq FloatKind.f64 b b)) (k_ Bool.false)) (br (fcmp BinOp.neq FloatKind.f64 b b) (br (fcmp BinOp.neq FloatKind.f64 a a) (k_ (fcmp BinOp.neq FloatKind.f64 b b)) (k_ Bool.false)) (br (fcmp BinOp.eql FloatKind.f64 a 0) (br (fcmp BinOp.eql FloatKind.f64 b 0) (k_ (beqB (fcmp BinOp.gtr FloatKind.f64 (fop BinOp.quo FloatKind.f64 4607182418800017408 a) 0) (fcmp BinOp.gtr FloatKind.f64 (fop BinOp.quo FloatKind.f64 4607182418800017408 b) 0))) (k_ (fcmp BinOp.eql FloatKind.f64 a b))) (k_ (fcmp BinOp.eql FloatKind.f64 a b)))))
noncomputable def F_laws_sameFloat (a : Nat) (b : Nat) : Option (Bool) := T_laws_sameFloat a b (fun c0_ => some c0_)
theorem T_laws_sameFloat_nat {R R' : Type} (o : Option R → Option R') (h0 : o none = none) (a : Nat) (b : Nat) (k_ : Bool → Option R) : T_laws_sameFloat a b (fun c0_ => o (k_ c0_)) = o (T_laws_sameFloat a b k_) := by
  unfold T_laws_sameFloat
  repeat (first | refine grd_out h0 ?_ | refine br_out ?_ ?_ | rfl | exact h0.symm)
noncomputable def laws_sameFloat_p (a : Nat) (b : Nat) : Bool := (F_laws_sameFloat a b).isSome
noncomputable def laws_sameFloat_v0 (a : Nat) (b : Nat) : Bool := ((F_laws_sameFloat a b).getD default)
theorem laws_sameFloat_of {a : Nat} {b : Nat} {r : Bool} (h : F_laws_sameFloat a b = some r) : laws_sameFloat_p a b = true ∧ laws_sameFloat_v0 a b = r := by
  unfold laws_sameFloat_p laws_sameFloat_v0
  rw [h]
  exact ⟨rfl, rfl⟩
noncomputable def T_impl_IsFinite {R : Type} (x : Nat) (k_ : Bool → Option R) : Option R := (k_ (fcmp BinOp.eql FloatKind.f32 (fop BinOp.sub FloatKind.f32 x x) 0))
noncomputable def F_impl_IsFinite (x : Nat) : Option (Bool) := T_impl_IsFinite x (fun c0_ => some c0_)
theorem T_impl_IsFinite_nat {R R' : Type} (o : Option R → Option R') (h0 : o none = none) (x : Nat) (k_ : Bool → Option R) : T_impl_IsFinite x (fun c0_ => o (k_ c0_)) = o (T_impl_IsFinite x k_) := by
  unfold T_impl_IsFinite
  repeat (first | refine grd_out h0 ?_ | refine br_out ?_ ?_ | rfl | exact h0.symm)
noncomputable def impl_IsFinite_p (x : Nat) : Bool := (F_impl_IsFinite x).isSome
noncomputable def impl_IsFinite_v0 (x : Nat) : Bool := ((F_impl_IsFinite x).getD default)
theorem impl_IsFinite_of {x : Nat} {r : Bool} (h : F_impl_IsFinite x = some r) : impl_IsFinite_p x = true ∧ impl_IsFinite_v0 x = r := by
  unfold impl_IsFinite_p impl_IsFinite_v0
  rw [h]
  exact ⟨rfl, rfl⟩
noncomputable def T_spec_l00In {R : Type} (n_ : Int) (low : Int) (high : Int) (k_ : Bool → Option R) : Option R := (br (leI low n_) (k_ (leI n_ high)) (k_ Bool.false))
noncomputable def F_spec_l00In (n_ : Int) (low : Int) (high : Int) : Option (Bool) := T_spec_l00In n_ low high (fun c0_ => some c0_)
theorem T_spec_l00In_nat {R R' : Type} (o : Option R → Option R') (h0 : o none = none) (n_ : Int) (low : Int) (high : Int) (k_ : Bool → Option R) : T_spec_l00In n_ low high (fun c0_ => o (k_ c0_)) = o (T_spec_l00In n_ low high k_) := by
  unfold T_spec_l00In
  repeat (first | refine grd_out h0 ?_ | refine br_out ?_ ?_ | rfl | exact h0.symm)
noncomputable def spec_l00In_p (n_ : Int) (low : Int) (high : Int) : Bool := (F_spec_l00In n_ low high).isSome
noncomputable def spec_l00In_v0 (n_ : Int) (low : Int) (high : Int) : Bool := ((F_spec_l00In n_ low high).getD default)
theorem spec_l00In_of {n_ : Int} {low : Int} {high : Int} {r : Bool} (h : F_spec_l00In n_ low high = some r) : spec_l00In_p n_ low high = true ∧ spec_l00In_v0 n_ low high = r := by
  unfold spec_l00In_p spec_l00In_v0
  rw [h]
  exact ⟨rfl, rfl⟩
noncomputable def T_impl_within {R : Type} (n_ : Int) (low : Int) (high : Int) (k_ : Bool → Option R) : Option R := (br (leI low n_) (k_ (leI n_ high)) (k_ Bool.false))
noncomputable def F_impl_within (n_ : Int) (low : Int) (high : Int) : Option (Bool) := T_impl_within n_ low high (fun c0_ => some c0_)
theorem T_impl_within_nat {R R' : Type} (o : Option R → Option R') (h0 : o none = none) (n_ : Int) (low : Int) (high : Int) (k_ : Bool → Option R) : T_impl_within n_ low high (fun c0_ => o (k_ c0_)) = o (T_impl_within n_ low high k_) := by
  unfold T_impl_within
  repeat (first | refine grd_out h0 ?_ | refine br_out ?_ ?_ | rfl | exact h0.symm)
noncomputable def impl_within_p (n_ : Int) (low : Int) (high : Int) : Bool := (F_impl_within n_ low high).isSome
noncomputable def impl_within_v0 (n_ : Int) (low : Int) (high : Int) : Bool := ((F_impl_within n_ low high).getD default)
theorem impl_within_of {n_ : Int} {low : Int} {high : Int} {r : Bool} (h : F_impl_within n_ low high = some r) : impl_within_p n_ low high = true ∧ impl_within_v0 n_ low high = r := by
  unfold impl_within_p impl_within_v0
  rw [h]
  exact ⟨rfl, rfl⟩
noncomputable def T_spec_l01Finite {R : Type} (x : Nat) (k_ : Bool → Option R) : Option R := (k_ (fcmp BinOp.eql FloatKind.f32 (fop BinOp.sub FloatKind.f32 x x) 0))
noncomputable def F_spec_l01Finite (x : Nat) : Option (Bool) := T_spec_l01Finite x (fun c0_ => some c0_)
theorem T_spec_l01Finite_nat {R R' : Type} (o : Option R → Option R') (h0 : o none = none) (x : Nat) (k_ : Bool → Option R) : T_spec_l01Finite x (fun c0_ => o (k_ c0_)) = o (T_spec_l01Finite x k_) := by
  unfold T_spec_l01Finite
  repeat (first | refine grd_out h0 ?_ | refine br_out ?_ ?_ | rfl | exact h0.symm)
noncomputable def spec_l01Finite_p (x : Nat) : Bool := (F_spec_l01Finite x).isSome
noncomputable def spec_l01Finite_v0 (x : Nat) : Bool := ((F_spec_l01Finite x).getD default)
theorem spec_l01Finite_of {x : Nat} {r : Bool} (h : F_spec_l01Finite x = some r) : spec_l01Finite_p x = true ∧ spec_l01Finite_v0 x = r := by
  unfold spec_l01Finite_p spec_l01Finite_v0
  rw [h]
  exact ⟨rfl, rfl⟩
noncomputable def T_impl_isLeast {R : Type} (x : Nat) (k_ : Bool → Option R) : Option R := (grd (impl_IsFinite_p x) (br (impl_IsFinite_v0 x) (k_ (fcmp BinOp.geq FloatKind.f32 x 0)) (k_ Bool.false)))
noncomputable def F_impl_isLeast (x : Nat) : Option (Bool) := T_impl_isLeast x (fun c0_ => some c0_)
theorem T_impl_isLeast_nat {R R' : Type} (o : Option R → Option R') (h0 : o none = none) (x : Nat) (k_ : Bool → Option R) : T_impl_isLeast x (fun c0_ => o (k_ c0_)) = o (T_impl_isLeast x k_) := by
  unfold T_impl_isLeast
  repeat (first | refine grd_out h0 ?_ | refine br_out ?_ ?_ | rfl | exact h0.symm)
noncomputable def impl_isLeast_p (x : Nat) : Bool := (F_impl_isLeast x).isSome
noncomputable def impl_isLeast_v0 (x : Nat) : Bool := ((F_impl_isLeast x).getD default)
theorem impl_isLeast_of {x : Nat} {r : Bool} (h : F_impl_isLeast x = some r) : impl_isLeast_p x = true ∧ impl_isLeast_v0 x = r := by
  unfold impl_isLeast_p impl_isLeast_v0
  rw [h]
  exact ⟨rfl, rfl⟩
noncomputable def T_spec_l02Least {R : Type} (x : Nat) (k_ : Bool → Option R) : Option R := (grd (spec_l01Finite_p x) (br (spec_l01Finite_v0 x) (k_ (fcmp BinOp.geq FloatKind.f32 x 0)) (k_ Bool.false)))
noncomputable def F_spec_l02Least (x : Nat) : Option (Bool) := T_spec_l02Least x (fun c0_ => some c0_)
theorem T_spec_l02Least_nat {R R' : Type} (o : Option R → Option R') (h0 : o none = none) (x : Nat) (k_ : Bool → Option R) : T_spec_l02Least x (fun c0_ => o (k_ c0_)) = o (T_spec_l02Least x k_) := by
  unfold T_spec_l02Least
  repeat (first | refine grd_out h0 ?_ | refine br_out ?_ ?_ | rfl | exact h0.symm)
noncomputable def spec_l02Least_p (x : Nat) : Bool := (F_spec_l02Least x).isSome
noncomputable def spec_l02Least_v0 (x : Nat) : Bool := ((F_spec_l02Least x).getD default)
theorem spec_l02Least_of {x : Nat} {r : Bool} (h : F_spec_l02Least x = some r) : spec_l02Least_p x = true ∧ spec_l02Least_v0 x = r := by
  unfold spec_l02Least_p spec_l02Least_v0
  rw [h]
  exact ⟨rfl, rfl⟩
noncomputable def T_impl_areFinite_1 {R : Type} (x : Nat) (k_ : Bool → Option R) : Option R := (grd (impl_IsFinite_p x) (k_ (bnot (impl_IsFinite_v0 x))))
noncomputable def F_impl_areFinite_1 (x : Nat) : Option (Bool) := T_impl_areFinite_1 x (fun c0_ => some c0_)
theorem T_impl_areFinite_1_nat {R R' : Type} (o : Option R → Option R') (h0 : o none = none) (x : Nat) (k_ : Bool → Option R) : T_impl_areFinite_1 x (fun c0_ => o (k_ c0_)) = o (T_impl_areFinite_1 x k_) := by
  unfold T_impl_areFinite_1
  repeat (first | refine grd_out h0 ?_ | refine br_out ?_ ?_ | rfl | exact h0.symm)
noncomputable def impl_areFinite_1_p (x : Nat) : Bool := (F_impl_areFinite_1 x).isSome
noncomputable def impl_areFinite_1_v0 (x : Nat) : Bool := ((F_impl_areFinite_1 x).getD default)
theorem impl_areFinite_1_of {x : Nat} {r : Bool} (h : F_impl_areFinite_1 x = some r) : impl_areFinite_1_p x = true ∧ impl_areFinite_1_v0 x = r := by
  unfold impl_areFinite_1_p impl_areFinite_1_v0
  rw [h]
  exact ⟨rfl, rfl⟩
noncomputable def T_laws_toFloat32S_l3 {R : Type} (an : Nat) (outn : Nat) (b0 : List Nat) (i : Int) (b1 : List Nat) (kn_ : Int → (List Nat) → Option R) (k0_ : Int → Bool → (List Nat) → Option R) : Option R := (br (ltI i (Int.ofNat an)) (grd (okIx i an) (grd (okIx i outn) (kn_ (addI IntKind.i64 i 1) (sF b1 (ixO 0 i 1) (gF b0 (ixO 0 i 1)))))) (k0_ i (ltI i (Int.ofNat an)) b1))
theorem T_laws_toFloat32S_l3_nat {R R' : Type} (o : Option R → Option R') (h0 : o none = none) (an : Nat) (outn : Nat) (b0 : List Nat) (i : Int) (b1 : List Nat) (kn_ : Int → (List Nat) → Option R) (k0_ : Int → Bool → (List Nat) → Option R) : T_laws_toFloat32S_l3 an outn b0 i b1 (fun i' b1' => o (kn_ i' b1')) (fun c0_ c1_ c2_ => o (k0_ c0_ c1_ c2_)) = o (T_laws_toFloat32S_l3 an outn b0 i b1 kn_ k0_) := by
  unfold T_laws_toFloat32S_l3
  repeat (first | refine grd_out h0 ?_ | refine br_out ?_ ?_ | rfl | exact h0.symm)
noncomputable def L_laws_toFloat32S_l3 (an : Nat) (outn : Nat) (b0 : List Nat) : Nat → Int → (List Nat) → Option ((Int × Bool × (List Nat)))
  | 0, _, _ => none
  | n + 1, i, b1 => T_laws_toFloat32S_l3 an outn b0  i b1  (fun i' b1' => L_laws_toFloat32S_l3 an outn b0 n i' b1') (fun c0_ c1_ c2_ => some (c0_, c1_, c2_))
theorem L_laws_toFloat32S_l3_succ (an : Nat) (outn : Nat) (b0 : List Nat) (n : Nat) (i : Int) (b1 : List Nat) : L_laws_toFloat32S_l3 an outn b0 (n + 1) i b1 = T_laws_toFloat32S_l3 an outn b0  i b1  (fun i' b1' => L_laws_toFloat32S_l3 an outn b0 n i' b1') (fun c0_ c1_ c2_ => some (c0_, c1_, c2_)) := rfl
noncomputable def laws_toFloat32S_l3_p (an : Nat) (outn : Nat) (b0 : List Nat) (i : Int) (b1 : List Nat) : Bool := (L_laws_toFloat32S_l3 an outn b0 big i b1).isSome
noncomputable def laws_toFloat32S_l3_a0_0 (an : Nat) (outn : Nat) (b0 : List Nat) (i : Int) (b1 : List Nat) : Int := ((L_laws_toFloat32S_l3 an outn b0 big i b1).getD default).1
noncomputable def laws_toFloat32S_l3_a0_1 (an : Nat) (outn : Nat) (b0 : List Nat) (i : Int) (b1 : List Nat) : Bool := ((L_laws_toFloat32S_l3 an outn b0 big i b1).getD default).2.1
noncomputable def laws_toFloat32S_l3_a0_2 (an : Nat) (outn : Nat) (b0 : List Nat) (i : Int) (b1 : List Nat) : List Nat := ((L_laws_toFloat32S_l3 an outn b0 big i b1).getD default).2.2
theorem laws_toFloat32S_l3_of0 {an : Nat} {outn : Nat} {b0 : List Nat} {i : Int} {b1 : List Nat} {m : Nat} {r : Int × Bool × (List Nat)} (hm : m = big) (h : L_laws_toFloat32S_l3 an outn b0 m i b1 = some r) : laws_toFloat32S_l3_p an outn b0 i b1 = true ∧ laws_toFloat32S_l3_a0_0 an outn b0 i b1 = r.1 ∧ laws_toFloat32S_l3_a0_1 an outn b0 i b1 = r.2.1 ∧ laws_toFloat32S_l3_a0_2 an outn b0 i b1 = r.2.2 := by
  subst hm
  unfold laws_toFloat32S_l3_p laws_toFloat32S_l3_a0_0 laws_toFloat32S_l3_a0_1 laws_toFloat32S_l3_a0_2
  rw [h]
  exact ⟨rfl, rfl, rfl, rfl⟩
noncomputable def T_laws_heldFloat32S_l2 {R : Type} (an : Nat) (b0 : List Nat) (k : Int) (i : Int) (kn_ : Int → Int → Option R) (k0_ : Unit → Option R) (k1_ : Int → Int → Bool → Option R) : Option R := (br (ltI i (Int.ofNat an)) (grd (okIx i an) (br (fcmp BinOp.neq FloatKind.f32 (gF b0 (ixO 0 i 1)) (fOI FloatKind.f32 k)) (k0_ ()) (kn_ (addI IntKind.i64 k 1) (addI IntKind.i64 i 1)))) (k1_ k i (ltI i (Int.ofNat an))))
theorem T_laws_heldFloat32S_l2_nat {R R' : Type} (o : Option R → Option R') (h0 : o none = none) (an : Nat) (b0 : List Nat) (k : Int) (i : Int) (kn_ : Int → Int → Option R) (k0_ : Unit → Option R) (k1_ : Int → Int → Bool → Option R) : T_laws_heldFloat32S_l2 an b0 k i (fun k' i' => o (kn_ k' i')) (fun _ => o (k0_ ())) (fun c0_ c1_ c2_ => o (k1_ c0_ c1_ c2_)) = o (T_laws_heldFloat32S_l2 an b0 k i kn_ k0_ k1_) := by
  unfold T_laws_heldFloat32S_l2
  repeat (first | refine grd_out h0 ?_ | refine br_out ?_ ?_ | rfl | exact h0.symm)
noncomputable def L_laws_heldFloat32S_l2 (an : Nat) (b0 : List Nat) : Nat → Int → Int → Option ((Unit) ⊕ (Int × Int × Bool))
  | 0, _, _ => none
  | n + 1, k, i => T_laws_heldFloat32S_l2 an b0  k i  (fun k' i' => L_laws_heldFloat32S_l2 an b0 n k' i') (fun _ => some (Sum.inl ())) (fun c0_ c1_ c2_ => some (Sum.inr (c0_, c1_, c2_)))
theorem L_laws_heldFloat32S_l2_succ (an : Nat) (b0 : List Nat) (n : Nat) (k : Int) (i : Int) : L_laws_heldFloat32S_l2 an b0 (n + 1) k i = T_laws_heldFloat32S_l2 an b0  k i  (fun k' i' => L_laws_heldFloat32S_l2 an b0 n k' i') (fun _ => some (Sum.inl ())) (fun c0_ c1_ c2_ => some (Sum.inr (c0_, c1_, c2_))) := rfl
noncomputable def laws_heldFloat32S_l2_p (an : Nat) (b0 : List Nat) (k : Int) (i : Int) : Bool := (L_laws_heldFloat32S_l2 an b0 big k i).isSome
noncomputable def laws_heldFloat32S_l2_w0 (an : Nat) (b0 : List Nat) (k : Int) (i : Int) : Bool := oL (L_laws_heldFloat32S_l2 an b0 big k i)
noncomputable def laws_heldFloat32S_l2_a1_0 (an : Nat) (b0 : List Nat) (k : Int) (i : Int) : Int := ((tR (L_laws_heldFloat32S_l2 an b0 big k i)).getD default).1
noncomputable def laws_heldFloat32S_l2_a1_1 (an : Nat) (b0 : List Nat) (k : Int) (i : Int) : Int := ((tR (L_laws_heldFloat32S_l2 an b0 big k i)).getD default).2.1
noncomputable def laws_heldFloat32S_l2_a1_2 (an : Nat) (b0 : List Nat) (k : Int) (i : Int) : Bool := ((tR (L_laws_heldFloat32S_l2 an b0 big k i)).getD default).2.2
theorem laws_heldFloat32S_l2_of1 {an : Nat} {b0 : List Nat} {k : Int} {i : Int} {m : Nat} {r : Int × Int × Bool} (hm : m = big) (h : L_laws_heldFloat32S_l2 an b0 m k i = some (Sum.inr r)) : laws_heldFloat32S_l2_p an b0 k i = true ∧ laws_heldFloat32S_l2_w0 an b0 k i = false ∧ laws_heldFloat32S_l2_a1_0 an b0 k i = r.1 ∧ laws_heldFloat32S_l2_a1_1 an b0 k i = r.2.1 ∧ laws_heldFloat32S_l2_a1_2 an b0 k i = r.2.2 := by
  subst hm
  unfold laws_heldFloat32S_l2_p laws_heldFloat32S_l2_w0 laws_heldFloat32S_l2_a1_0 laws_heldFloat32S_l2_a1_1 laws_heldFloat32S_l2_a1_2
  rw [h]
  exact ⟨rfl, rfl, rfl, rfl, rfl⟩
noncomputable def T_spec_l04Mean_l3 {R : Type} (listn : Nat) (b0 : List Nat) (sum : Nat) (i : Int) (kn_ : Nat → Int → Option R) (k0_ : Nat → Int → Bool → Option R) : Option R := (br (ltI i (Int.ofNat listn)) (grd (okIx i listn) (kn_ (fop BinOp.add FloatKind.f32 sum (gF b0 (ixO 0 i 1))) (addI IntKind.i64 i 1))) (k0_ sum i (ltI i (Int.ofNat listn))))
theorem T_spec_l04Mean_l3_nat {R R' : Type} (o : Option R → Option R') (h0 : o none = none) (listn : Nat) (b0 : List Nat) (sum : Nat) (i : Int) (kn_ : Nat → Int → Option R) (k0_ : Nat → Int → Bool → Option R) : T_spec_l04Mean_l3 listn b0 sum i (fun sum' i' => o (kn_ sum' i')) (fun c0_ c1_ c2_ => o (k0_ c0_ c1_ c2_)) = o (T_spec_l04Mean_l3 listn b0 sum i kn_ k0_) := by
  unfold T_spec_l04Mean_l3
  repeat (first | refine grd_out h0 ?_ | refine br_out ?_ ?_ | rfl | exact h0.symm)
noncomputable def L_spec_l04Mean_l3 (listn : Nat) (b0 : List Nat) : Nat → Nat → Int → Option ((Nat × Int × Bool))
  | 0, _, _ => none
  | n + 1, sum, i => T_spec_l04Mean_l3 listn b0  sum i  (fun sum' i' => L_spec_l04Mean_l3 listn b0 n sum' i') (fun c0_ c1_ c2_ => some (c0_, c1_, c2_))
theorem L_spec_l04Mean_l3_succ (listn : Nat) (b0 : List Nat) (n : Nat) (sum : Nat) (i : Int) : L_spec_l04Mean_l3 listn b0 (n + 1) sum i = T_spec_l04Mean_l3 listn b0  sum i  (fun sum' i' => L_spec_l04Mean_l3 listn b0 n sum' i') (fun c0_ c1_ c2_ => some (c0_, c1_, c2_)) := rfl
noncomputable def spec_l04Mean_l3_p (listn : Nat) (b0 : List Nat) (sum : Nat) (i : Int) : Bool := (L_spec_l04Mean_l3 listn b0 big sum i).isSome
noncomputable def spec_l04Mean_l3_a0_0 (listn : Nat) (b0 : List Nat) (sum : Nat) (i : Int) : Nat := ((L_spec_l04Mean_l3 listn b0 big sum i).getD default).1
noncomputable def spec_l04Mean_l3_a0_1 (listn : Nat) (b0 : List Nat) (sum : Nat) (i : Int) : Int := ((L_spec_l04Mean_l3 listn b0 big sum i).getD default).2.1
noncomputable def spec_l04Mean_l3_a0_2 (listn : Nat) (b0 : List Nat) (sum : Nat) (i : Int) : Bool := ((L_spec_l04Mean_l3 listn b0 big sum i).getD default).2.2
theorem spec_l04Mean_l3_of0 {listn : Nat} {b0 : List Nat} {sum : Nat} {i : Int} {m : Nat} {r : Nat × Int × Bool} (hm : m = big) (h : L_spec_l04Mean_l3 listn b0 m sum i = some r) : spec_l04Mean_l3_p listn b0 sum i = true ∧ spec_l04Mean_l3_a0_0 listn b0 sum i = r.1 ∧ spec_l04Mean_l3_a0_1 listn b0 sum i = r.2.1 ∧ spec_l04Mean_l3_a0_2 listn b0 sum i = r.2.2 := by
  subst hm
  unfold spec_l04Mean_l3_p spec_l04Mean_l3_a0_0 spec_l04Mean_l3_a0_1 spec_l04Mean_l3_a0_2
  rw [h]
  exact ⟨rfl, rfl, rfl, rfl⟩
noncomputable def T_impl_sum_l3 {R : Type} (t6n : Nat) (t7 : Int) (b0 : List Nat) (all : Nat) (t8 : Int) (kn_ : Nat → Int → Option R) (k0_ : Nat → Int → Bool → Option R) : Option R := (br (ltI t8 t7) (grd (okIx t8 t6n) (kn_ (fop BinOp.add FloatKind.f32 all (gF b0 (ixO 0 t8 1))) (addI IntKind.i64 t8 1))) (k0_ all t8 (ltI t8 t7)))
theorem T_impl_sum_l3_nat {R R' : Type} (o : Option R → Option R') (h0 : o none = none) (t6n : Nat) (t7 : Int) (b0 : List Nat) (all : Nat) (t8 : Int) (kn_ : Nat → Int → Option R) (k0_ : Nat → Int → Bool → Option R) : T_impl_sum_l3 t6n t7 b0 all t8 (fun all' t8' => o (kn_ all' t8')) (fun c0_ c1_ c2_ => o (k0_ c0_ c1_ c2_)) = o (T_impl_sum_l3 t6n t7 b0 all t8 kn_ k0_) := by
  unfold T_impl_sum_l3
  repeat (first | refine grd_out h0 ?_ | refine br_out ?_ ?_ | rfl | exact h0.symm)
noncomputable def L_impl_sum_l3 (t6n : Nat) (t7 : Int) (b0 : List Nat) : Nat → Nat → Int → Option ((Nat × Int × Bool))
  | 0, _, _ => none
  | n + 1, all, t8 => T_impl_sum_l3 t6n t7 b0  all t8  (fun all' t8' => L_impl_sum_l3 t6n t7 b0 n all' t8') (fun c0_ c1_ c2_ => some (c0_, c1_, c2_))
theorem L_impl_sum_l3_succ (t6n : Nat) (t7 : Int) (b0 : List Nat) (n : Nat) (all : Nat) (t8 : Int) : L_impl_sum_l3 t6n t7 b0 (n + 1) all t8 = T_impl_sum_l3 t6n t7 b0  all t8  (fun all' t8' => L_impl_sum_l3 t6n t7 b0 n all' t8') (fun c0_ c1_ c2_ => some (c0_, c1_, c2_)) := rfl
noncomputable def impl_sum_l3_p (t6n : Nat) (t7 : Int) (b0 : List Nat) (all : Nat) (t8 : Int) : Bool := (L_impl_sum_l3 t6n t7 b0 big all t8).isSome
noncomputable def impl_sum_l3_a0_0 (t6n : Nat) (t7 : Int) (b0 : List Nat) (all : Nat) (t8 : Int) : Nat := ((L_impl_sum_l3 t6n t7 b0 big all t8).getD default).1
noncomputable def impl_sum_l3_a0_1 (t6n : Nat) (t7 : Int) (b0 : List Nat) (all : Nat) (t8 : Int) : Int := ((L_impl_sum_l3 t6n t7 b0 big all t8).getD default).2.1
noncomputable def impl_sum_l3_a0_2 (t6n : Nat) (t7 : Int) (b0 : List Nat) (all : Nat) (t8 : Int) : Bool := ((L_impl_sum_l3 t6n t7 b0 big all t8).getD default).2.2
theorem impl_sum_l3_of0 {t6n : Nat} {t7 : Int} {b0 : List Nat} {all : Nat} {t8 : Int} {m : Nat} {r : Nat × Int × Bool} (hm : m = big) (h : L_impl_sum_l3 t6n t7 b0 m all t8 = some r) : impl_sum_l3_p t6n t7 b0 all t8 = true ∧ impl_sum_l3_a0_0 t6n t7 b0 all t8 = r.1 ∧ impl_sum_l3_a0_1 t6n t7 b0 all t8 = r.2.1 ∧ impl_sum_l3_a0_2 t6n t7 b0 all t8 = r.2.2 := by
  subst hm
  unfold impl_sum_l3_p impl_sum_l3_a0_0 impl_sum_l3_a0_1 impl_sum_l3_a0_2
  rw [h]
  exact ⟨rfl, rfl, rfl, rfl⟩
noncomputable def T_laws_toFloat32S {R : Type} (a_n : Nat) (a : List Nat) (k_ : Nat → (List Nat) → Option R) : Option R := (grd (okMk (Int.ofNat a_n) (Int.ofNat a_n) 4) (grd (laws_toFloat32S_l3_p a_n (toN (Int.ofNat a_n)) a 0 (rF (muN (toN (Int.ofNat a_n)) 1))) (k_ (toN (Int.ofNat a_n)) (laws_toFloat32S_l3_a0_2 a_n (toN (Int.ofNat a_n)) a 0 (rF (muN (toN (Int.ofNat a_n)) 1))))))
noncomputable def F_laws_toFloat32S (a_n : Nat) (a : List Nat) : Option (Nat × (List Nat)) := T_laws_toFloat32S a_n a (fun c0_ c1_ => some (c0_, c1_))
theorem T_laws_toFloat32S_nat {R R' : Type} (o : Option R → Option R') (h0 : o none = none) (a_n : Nat) (a : List Nat) (k_ : Nat → (List Nat) → Option R) : T_laws_toFloat32S a_n a (fun c0_ c1_ => o (k_ c0_ c1_)) = o (T_laws_toFloat32S a_n a k_) := by
  unfold T_laws_toFloat32S
  repeat (first | refine grd_out h0 ?_ | refine br_out ?_ ?_ | rfl | exact h0.symm)
noncomputable def laws_toFloat32S_p (a_n : Nat) (a : List Nat) : Bool := (F_laws_toFloat32S a_n a).isSome
noncomputable def laws_toFloat32S_v0 (a_n : Nat) (a : List Nat) : Nat := ((F_laws_toFloat32S a_n a).getD default).1
noncomputable def laws_toFloat32S_v1 (a_n : Nat) (a : List Nat) : List Nat := ((F_laws_toFloat32S a_n a).getD default).2
theorem laws_toFloat32S_of {a_n : Nat} {a : List Nat} {r : Nat × (List Nat)} (h : F_laws_toFloat32S a_n a = some r) : laws_toFloat32S_p a_n a = true ∧ laws_toFloat32S_v0 a_n a = r.1 ∧ laws_toFloat32S_v1 a_n a = r.2 := by
  unfold laws_toFloat32S_p laws_toFloat32S_v0 laws_toFloat32S_v1
  rw [h]
  exact ⟨rfl, rfl, rfl⟩
noncomputable def T_laws_heldFloat32S {R : Type} (a_n : Nat) (a : List Nat) (k : Int) (k_ : Int → Option R) : Option R := (grd (laws_heldFloat32S_l2_p a_n a k 0) (br (laws_heldFloat32S_l2_w0 a_n a k 0) (k_ (Int.negSucc 0)) (k_ (laws_heldFloat32S_l2_a1_0 a_n a k 0))))
noncomputable def F_laws_heldFloat32S (a_n : Nat) (a : List Nat) (k : Int) : Option (Int) := T_laws_heldFloat32S a_n a k (fun c0_ => some c0_)
theorem T_laws_heldFloat32S_nat {R R' : Type} (o : Option R → Option R') (h0 : o none = none) (a_n : Nat) (a : List Nat) (k : Int) (k_ : Int → Option R) : T_laws_heldFloat32S a_n a k (fun c0_ => o (k_ c0_)) = o (T_laws_heldFloat32S a_n a k k_) := by
  unfold T_laws_heldFloat32S
  repeat (first | refine grd_out h0 ?_ | refine br_out ?_ ?_ | rfl | exact h0.symm)
noncomputable def laws_heldFloat32S_p (a_n : Nat) (a : List Nat) (k : Int) : Bool := (F_laws_heldFloat32S a_n a k).isSome
noncomputable def laws_heldFloat32S_v0 (a_n : Nat) (a : List Nat) (k : Int) : Int := ((F_laws_heldFloat32S a_n a k).getD default)
theorem laws_heldFloat32S_of {a_n : Nat} {a : List Nat} {k : Int} {r : Int} (h : F_laws_heldFloat32S a_n a k = some r) : laws_heldFloat32S_p a_n a k = true ∧ laws_heldFloat32S_v0 a_n a k = r := by
  unfold laws_heldFloat32S_p laws_heldFloat32S_v0
  rw [h]
  exact ⟨rfl, rfl⟩
noncomputable def T_spec_l04Mean {R : Type} (list_n : Nat) (list : List Nat) (k_ : Nat → Option R) : Option R := (grd (spec_l04Mean_l3_p list_n list 0 0) (k_ (fop BinOp.quo FloatKind.f32 (spec_l04Mean_l3_a0_0 list_n list 0 0) (fOI FloatKind.f32 (Int.ofNat list_n)))))
noncomputable def F_spec_l04Mean (list_n : Nat) (list : List Nat) : Option (Nat) := T_spec_l04Mean list_n list (fun c0_ => some c0_)
theorem T_spec_l04Mean_nat {R R' : Type} (o : Option R → Option R') (h0 : o none = none) (list_n : Nat) (list : List Nat) (k_ : Nat → Option R) : T_spec_l04Mean list_n list (fun c0_ => o (k_ c0_)) = o (T_spec_l04Mean list_n list k_) := by
  unfold T_spec_l04Mean
  repeat (first | refine grd_out h0 ?_ | refine br_out ?_ ?_ | rfl | exact h0.symm)
noncomputable def spec_l04Mean_p (list_n : Nat) (list : List Nat) : Bool := (F_spec_l04Mean list_n list).isSome
noncomputable def spec_l04Mean_v0 (list_n : Nat) (list : List Nat) : Nat := ((F_spec_l04Mean list_n list).getD default)
theorem spec_l04Mean_of {list_n : Nat} {list : List Nat} {r : Nat} (h : F_spec_l04Mean list_n list = some r) : spec_l04Mean_p list_n list = true ∧ spec_l04Mean_v0 list_n list = r := by
  unfold spec_l04Mean_p spec_l04Mean_v0
  rw [h]
  exact ⟨rfl, rfl⟩
noncomputable def T_impl_sum {R : Type} (list_n : Nat) (list : List Nat) (k_ : Nat → Option R) : Option R := (grd (impl_sum_l3_p list_n (Int.ofNat list_n) list 0 0) (k_ (impl_sum_l3_a0_0 list_n (Int.ofNat list_n) list 0 0)))
noncomputable def F_impl_sum (list_n : Nat) (list : List Nat) : Option (Nat) := T_impl_sum list_n list (fun c0_ => some c0_)
theorem T_impl_sum_nat {R R' : Type} (o : Option R → Option R') (h0 : o none = none) (list_n : Nat) (list : List Nat) (k_ : Nat → Option R) : T_impl_sum list_n list (fun c0_ => o (k_ c0_)) = o (T_impl_sum list_n list k_) := by
  unfold T_impl_sum
  repeat (first | refine grd_out h0 ?_ | refine br_out ?_ ?_ | rfl | exact h0.symm)
noncomputable def impl_sum_p (list_n : Nat) (list : List Nat) : Bool := (F_impl_sum list_n list).isSome
noncomputable def impl_sum_v0 (list_n : Nat) (list : List Nat) : Nat := ((F_impl_sum list_n list).getD default)
theorem impl_sum_of {list_n : Nat} {list : List Nat} {r : Nat} (h : F_impl_sum list_n list = some r) : impl_sum_p list_n list = true ∧ impl_sum_v0 list_n list = r := by
  unfold impl_sum_p impl_sum_v0
  rw [h]
  exact ⟨rfl, rfl⟩
noncomputable def T_impl_areLeast_1 {R : Type} (x : Nat) (k_ : Bool → Option R) : Option R := (grd (impl_isLeast_p x) (k_ (bnot (impl_isLeast_v0 x))))
noncomputable def F_impl_areLeast_1 (x : Nat) : Option (Bool) := T_impl_areLeast_1 x (fun c0_ => some c0_)
theorem T_impl_areLeast_1_nat {R R' : Type} (o : Option R → Option R') (h0 : o none = none) (x : Nat) (k_ : Bool → Option R) : T_impl_areLeast_1 x (fun c0_ => o (k_ c0_)) = o (T_impl_areLeast_1 x k_) := by
  unfold T_impl_areLeast_1
  repeat (first | refine grd_out h0 ?_ | refine br_out ?_ ?_ | rfl | exact h0.symm)
noncomputable def impl_areLeast_1_p (x : Nat) : Bool := (F_impl_areLeast_1 x).isSome
noncomputable def impl_areLeast_1_v0 (x : Nat) : Bool := ((F_impl_areLeast_1 x).getD default)
theorem impl_areLeast_1_of {x : Nat} {r : Bool} (h : F_impl_areLeast_1 x = some r) : impl_areLeast_1_p x = true ∧ impl_areLeast_1_v0 x = r := by
  unfold impl_areLeast_1_p impl_areLeast_1_v0
  rw [h]
  exact ⟨rfl, rfl⟩
noncomputable def T_laws_eqFloat32S_l4 {R : Type} (an : Nat) (bn : Nat) (b0 : List Nat) (b1 : List Nat) (i : Int) (kn_ : Int → Option R) (k0_ : Unit → Option R) (k1_ : Int → Bool → Option R) : Option R := (br (ltI i (Int.ofNat an)) (grd (okIx i an) (grd (okIx i bn) (grd (laws_sameFloat_p (fcvV FloatKind.f32 FloatKind.f64 (gF b0 (ixO 0 i 1))) (fcvV FloatKind.f32 FloatKind.f64 (gF b1 (ixO 0 i 1)))) (br (bnot (laws_sameFloat_v0 (fcvV FloatKind.f32 FloatKind.f64 (gF b0 (ixO 0 i 1))) (fcvV FloatKind.f32 FloatKind.f64 (gF b1 (ixO 0 i 1))))) (k0_ ()) (kn_ (addI IntKind.i64 i 1)))))) (k1_ i (ltI i (Int.ofNat an))))
theorem T_laws_eqFloat32S_l4_nat {R R' : Type} (o : Option R → Option R') (h0 : o none = none) (an : Nat) (bn : Nat) (b0 : List Nat) (b1 : List Nat) (i : Int) (kn_ : Int → Option R) (k0_ : Unit → Option R) (k1_ : Int → Bool → Option R) : T_laws_eqFloat32S_l4 an bn b0 b1 i (fun i' => o (kn_ i')) (fun _ => o (k0_ ())) (fun c0_ c1_ => o (k1_ c0_ c1_)) = o (T_laws_eqFloat32S_l4 an bn b0 b1 i kn_ k0_ k1_) := by
  unfold T_laws_eqFloat32S_l4
  repeat (first | refine grd_out h0 ?_ | refine br_out ?_ ?_ | rfl | exact h0.symm)
noncomputable def L_laws_eqFloat32S_l4 (an : Nat) (bn : Nat) (b0 : List Nat) (b1 : List Nat) : Nat → Int → Option ((Unit) ⊕ (Int × Bool))
  | 0, _ => none
  | n + 1, i => T_laws_eqFloat32S_l4 an bn b0 b1  i  (fun i' => L_laws_eqFloat32S_l4 an bn b0 b1 n i') (fun _ => some (Sum.inl ())) (fun c0_ c1_ => some (Sum.inr (c0_, c1_)))
theorem L_laws_eqFloat32S_l4_succ (an : Nat) (bn : Nat) (b0 : List Nat) (b1 : List Nat) (n : Nat) (i : Int) : L_laws_eqFloat32S_l4 an bn b0 b1 (n + 1) i = T_laws_eqFloat32S_l4 an bn b0 b1  i  (fun i' => L_laws_eqFloat32S_l4 an bn b0 b1 n i') (fun _ => some (Sum.inl ())) (fun c0_ c1_ => some (Sum.inr (c0_, c1_))) := rfl
noncomputable def laws_eqFloat32S_l4_p (an : Nat) (bn : Nat) (b0 : List Nat) (b1 : List Nat) (i : Int) : Bool := (L_laws_eqFloat32S_l4 an bn b0 b1 big i).isSome
noncomputable def laws_eqFloat32S_l4_w0 (an : Nat) (bn : Nat) (b0 : List Nat) (b1 : List Nat) (i : Int) : Bool := oL (L_laws_eqFloat32S_l4 an bn b0 b1 big i)
noncomputable def laws_eqFloat32S_l4_a1_0 (an : Nat) (bn : Nat) (b0 : List Nat) (b1 : List Nat) (i : Int) : Int := ((tR (L_laws_eqFloat32S_l4 an bn b0 b1 big i)).getD default).1
noncomputable def laws_eqFloat32S_l4_a1_1 (an : Nat) (bn : Nat) (b0 : List Nat) (b1 : List Nat) (i : Int) : Bool := ((tR (L_laws_eqFloat32S_l4 an bn b0 b1 big i)).getD default).2
theorem laws_eqFloat32S_l4_of1 {an : Nat} {bn : Nat} {b0 : List Nat} {b1 : List Nat} {i : Int} {m : Nat} {r : Int × Bool} (hm : m = big) (h : L_laws_eqFloat32S_l4 an bn b0 b1 m i = some (Sum.inr r)) : laws_eqFloat32S_l4_p an bn b0 b1 i = true ∧ laws_eqFloat32S_l4_w0 an bn b0 b1 i = false ∧ laws_eqFloat32S_l4_a1_0 an bn b0 b1 i = r.1 ∧ laws_eqFloat32S_l4_a1_1 an bn b0 b1 i = r.2 := by
  subst hm
  unfold laws_eqFloat32S_l4_p laws_eqFloat32S_l4_w0 laws_eqFloat32S_l4_a1_0 laws_eqFloat32S_l4_a1_1
  rw [h]
  exact ⟨rfl, rfl, rfl, rfl⟩
noncomputable def T_laws_eqFloat32S {R : Type} (a_n : Nat) (a : List Nat) (b_n : Nat) (b : List Nat) (k_ : Bool → Option R) : Option R := (br (neI (Int.ofNat a_n) (Int.ofNat b_n)) (k_ Bool.false) (grd (laws_eqFloat32S_l4_p a_n b_n a b 0) (br (laws_eqFloat32S_l4_w0 a_n b_n a b 0) (k_ Bool.false) (k_ Bool.true))))
noncomputable def F_laws_eqFloat32S (a_n : Nat) (a : List Nat) (b_n : Nat) (b : List Nat) : Option (Bool) := T_laws_eqFloat32S a_n a b_n b (fun c0_ => some c0_)
theorem T_laws_eqFloat32S_nat {R R' : Type} (o : Option R → Option R') (h0 : o none = none) (a_n : Nat) (a : List Nat) (b_n : Nat) (b : List Nat) (k_ : Bool → Option R) : T_laws_eqFloat32S a_n a b_n b (fun c0_ => o (k_ c0_)) = o (T_laws_eqFloat32S a_n a b_n b k_) := by
  unfold T_laws_eqFloat32S
  repeat (first | refine grd_out h0 ?_ | refine br_out ?_ ?_ | rfl | exact h0.symm)
noncomputable def laws_eqFloat32S_p (a_n : Nat) (a : List Nat) (b_n : Nat) (b : List Nat) : Bool := (F_laws_eqFloat32S a_n a b_n b).isSome
noncomputable def laws_eqFloat32S_v0 (a_n : Nat) (a : List Nat) (b_n : Nat) (b : List Nat) : Bool := ((F_laws_eqFloat32S a_n a b_n b).getD default)
theorem laws_eqFloat32S_of {a_n : Nat} {a : List Nat} {b_n : Nat} {b : List Nat} {r : Bool} (h : F_laws_eqFloat32S a_n a b_n b = some r) : laws_eqFloat32S_p a_n a b_n b = true ∧ laws_eqFloat32S_v0 a_n a b_n b = r := by
  unfold laws_eqFloat32S_p laws_eqFloat32S_v0
  rw [h]
  exact ⟨rfl, rfl⟩
noncomputable def T_impl_meanOf {R : Type} (list_n : Nat) (list : List Nat) (k_ : Nat → Option R) : Option R := (grd (impl_sum_p list_n (pF list 0 (muN list_n 1))) (k_ (fop BinOp.quo FloatKind.f32 (impl_sum_v0 list_n (pF list 0 (muN list_n 1))) (fOI FloatKind.f32 (Int.ofNat list_n)))))
noncomputable def F_impl_meanOf (list_n : Nat) (list : List Nat) : Option (Nat) := T_impl_meanOf list_n list (fun c0_ => some c0_)
theorem T_impl_meanOf_nat {R R' : Type} (o : Option R → Option R') (h0 : o none = none) (list_n : Nat) (list : List Nat) (k_ : Nat → Option R) : T_impl_meanOf list_n list (fun c0_ => o (k_ c0_)) = o (T_impl_meanOf list_n list k_) := by
  unfold T_impl_meanOf
  repeat (first | refine grd_out h0 ?_ | refine br_out ?_ ?_ | rfl | exact h0.symm)
noncomputable def impl_meanOf_p (list_n : Nat) (list : List Nat) : Bool := (F_impl_meanOf list_n list).isSome
noncomputable def impl_meanOf_v0 (list_n : Nat) (list : List Nat) : Nat := ((F_impl_meanOf list_n list).getD default)
theorem impl_meanOf_of {list_n : Nat} {list : List Nat} {r : Nat} (h : F_impl_meanOf list_n list = some r) : impl_meanOf_p list_n list = true ∧ impl_meanOf_v0 list_n list = r := by
  unfold impl_meanOf_p impl_meanOf_v0
  rw [h]
  exact ⟨rfl, rfl⟩
noncomputable def T_spec_l04Winds_l2 {R : Type} (listn : Nat) (b0 : List Nat) (i : Int) (kn_ : Int → Option R) (k0_ : Unit → Option R) (k1_ : Int → Bool → Option R) : Option R := (br (ltI i (Int.ofNat listn)) (br (leI (Int.ofNat listn) 256) (grd (okIx i listn) (grd (spec_l02Least_p (gF b0 (ixO 0 i 1))) (br (bnot (spec_l02Least_v0 (gF b0 (ixO 0 i 1)))) (k0_ ()) (kn_ (addI IntKind.i64 i 1))))) (k1_ i (leI (Int.ofNat listn) 256))) (k1_ i Bool.false))
theorem T_spec_l04Winds_l2_nat {R R' : Type} (o : Option R → Option R') (h0 : o none = none) (listn : Nat) (b0 : List Nat) (i : Int) (kn_ : Int → Option R) (k0_ : Unit → Option R) (k1_ : Int → Bool → Option R) : T_spec_l04Winds_l2 listn b0 i (fun i' => o (kn_ i')) (fun _ => o (k0_ ())) (fun c0_ c1_ => o (k1_ c0_ c1_)) = o (T_spec_l04Winds_l2 listn b0 i kn_ k0_ k1_) := by
  unfold T_spec_l04Winds_l2
  repeat (first | refine grd_out h0 ?_ | refine br_out ?_ ?_ | rfl | exact h0.symm)
noncomputable def L_spec_l04Winds_l2 (listn : Nat) (b0 : List Nat) : Nat → Int → Option ((Unit) ⊕ (Int × Bool))
  | 0, _ => none
  | n + 1, i => T_spec_l04Winds_l2 listn b0  i  (fun i' => L_spec_l04Winds_l2 listn b0 n i') (fun _ => some (Sum.inl ())) (fun c0_ c1_ => some (Sum.inr (c0_, c1_)))
theorem L_spec_l04Winds_l2_succ (listn : Nat) (b0 : List Nat) (n : Nat) (i : Int) : L_spec_l04Winds_l2 listn b0 (n + 1) i = T_spec_l04Winds_l2 listn b0  i  (fun i' => L_spec_l04Winds_l2 listn b0 n i') (fun _ => some (Sum.inl ())) (fun c0_ c1_ => some (Sum.inr (c0_, c1_))) := rfl
noncomputable def spec_l04Winds_l2_p (listn : Nat) (b0 : List Nat) (i : Int) : Bool := (L_spec_l04Winds_l2 listn b0 big i).isSome
noncomputable def spec_l04Winds_l2_w0 (listn : Nat) (b0 : List Nat) (i : Int) : Bool := oL (L_spec_l04Winds_l2 listn b0 big i)
noncomputable def spec_l04Winds_l2_a1_0 (listn : Nat) (b0 : List Nat) (i : Int) : Int := ((tR (L_spec_l04Winds_l2 listn b0 big i)).getD default).1
noncomputable def spec_l04Winds_l2_a1_1 (listn : Nat) (b0 : List Nat) (i : Int) : Bool := ((tR (L_spec_l04Winds_l2 listn b0 big i)).getD default).2
theorem spec_l04Winds_l2_of0 {listn : Nat} {b0 : List Nat} {i : Int} {m : Nat} {r : Unit} (hm : m = big) (h : L_spec_l04Winds_l2 listn b0 m i = some (Sum.inl r)) : spec_l04Winds_l2_p listn b0 i = true ∧ spec_l04Winds_l2_w0 listn b0 i = true := by
  subst hm
  unfold spec_l04Winds_l2_p spec_l04Winds_l2_w0
  rw [h]
  exact ⟨rfl, rfl⟩
theorem spec_l04Winds_l2_of1 {listn : Nat} {b0 : List Nat} {i : Int} {m : Nat} {r : Int × Bool} (hm : m = big) (h : L_spec_l04Winds_l2 listn b0 m i = some (Sum.inr r)) : spec_l04Winds_l2_p listn b0 i = true ∧ spec_l04Winds_l2_w0 listn b0 i = false ∧ spec_l04Winds_l2_a1_0 listn b0 i = r.1 ∧ spec_l04Winds_l2_a1_1 listn b0 i = r.2 := by
  subst hm
  unfold spec_l04Winds_l2_p spec_l04Winds_l2_w0 spec_l04Winds_l2_a1_0 spec_l04Winds_l2_a1_1
  rw [h]
  exact ⟨rfl, rfl, rfl, rfl⟩
noncomputable def T_slices_IndexFunc_sf32_f32_areFinite_1_l2 {R : Type} (sn : Nat) (t7 : Int) (b0 : List Nat) (t8 : Int) (kn_ : Int → Option R) (k0_ : Int → Option R) (k1_ : Int → Bool → Option R) : Option R := (br (ltI t8 t7) (grd (okIx t8 sn) (grd (impl_areFinite_1_p (gF b0 (ixO 0 t8 1))) (br (impl_areFinite_1_v0 (gF b0 (ixO 0 t8 1))) (k0_ t8) (kn_ (addI IntKind.i64 t8 1))))) (k1_ t8 (ltI t8 t7)))
theorem T_slices_IndexFunc_sf32_f32_areFinite_1_l2_nat {R R' : Type} (o : Option R → Option R') (h0 : o none = none) (sn : Nat) (t7 : Int) (b0 : List Nat) (t8 : Int) (kn_ : Int → Option R) (k0_ : Int → Option R) (k1_ : Int → Bool → Option R) : T_slices_IndexFunc_sf32_f32_areFinite_1_l2 sn t7 b0 t8 (fun t8' => o (kn_ t8')) (fun c0_ => o (k0_ c0_)) (fun c0_ c1_ => o (k1_ c0_ c1_)) = o (T_slices_IndexFunc_sf32_f32_areFinite_1_l2 sn t7 b0 t8 kn_ k0_ k1_) := by
  unfold T_slices_IndexFunc_sf32_f32_areFinite_1_l2
  repeat (first | refine grd_out h0 ?_ | refine br_out ?_ ?_ | rfl | exact h0.symm)
noncomputable def L_slices_IndexFunc_sf32_f32_areFinite_1_l2 (sn : Nat) (t7 : Int) (b0 : List Nat) : Nat → Int → Option ((Int) ⊕ (Int × Bool))
  | 0, _ => none
  | n + 1, t8 => T_slices_IndexFunc_sf32_f32_areFinite_1_l2 sn t7 b0  t8  (fun t8' => L_slices_IndexFunc_sf32_f32_areFinite_1_l2 sn t7 b0 n t8') (fun c0_ => some (Sum.inl c0_)) (fun c0_ c1_ => some (Sum.inr (c0_, c1_)))
theorem L_slices_IndexFunc_sf32_f32_areFinite_1_l2_succ (sn : Nat) (t7 : Int) (b0 : List Nat) (n : Nat) (t8 : Int) : L_slices_IndexFunc_sf32_f32_areFinite_1_l2 sn t7 b0 (n + 1) t8 = T_slices_IndexFunc_sf32_f32_areFinite_1_l2 sn t7 b0  t8  (fun t8' => L_slices_IndexFunc_sf32_f32_areFinite_1_l2 sn t7 b0 n t8') (fun c0_ => some (Sum.inl c0_)) (fun c0_ c1_ => some (Sum.inr (c0_, c1_))) := rfl
noncomputable def slices_IndexFunc_sf32_f32_areFinite_1_l2_p (sn : Nat) (t7 : Int) (b0 : List Nat) (t8 : Int) : Bool := (L_slices_IndexFunc_sf32_f32_areFinite_1_l2 sn t7 b0 big t8).isSome
noncomputable def slices_IndexFunc_sf32_f32_areFinite_1_l2_w0 (sn : Nat) (t7 : Int) (b0 : List Nat) (t8 : Int) : Bool := oL (L_slices_IndexFunc_sf32_f32_areFinite_1_l2 sn t7 b0 big t8)
noncomputable def slices_IndexFunc_sf32_f32_areFinite_1_l2_a0_0 (sn : Nat) (t7 : Int) (b0 : List Nat) (t8 : Int) : Int := ((tL (L_slices_IndexFunc_sf32_f32_areFinite_1_l2 sn t7 b0 big t8)).getD default)
noncomputable def slices_IndexFunc_sf32_f32_areFinite_1_l2_a1_0 (sn : Nat) (t7 : Int) (b0 : List Nat) (t8 : Int) : Int := ((tR (L_slices_IndexFunc_sf32_f32_areFinite_1_l2 sn t7 b0 big t8)).getD default).1
noncomputable def slices_IndexFunc_sf32_f32_areFinite_1_l2_a1_1 (sn : Nat) (t7 : Int) (b0 : List Nat) (t8 : Int) : Bool := ((tR (L_slices_IndexFunc_sf32_f32_areFinite_1_l2 sn t7 b0 big t8)).getD default).2
theorem slices_IndexFunc_sf32_f32_areFinite_1_l2_of0 {sn : Nat} {t7 : Int} {b0 : List Nat} {t8 : Int} {m : Nat} {r : Int} (hm : m = big) (h : L_slices_IndexFunc_sf32_f32_areFinite_1_l2 sn t7 b0 m t8 = some (Sum.inl r)) : slices_IndexFunc_sf32_f32_areFinite_1_l2_p sn t7 b0 t8 = true ∧ slices_IndexFunc_sf32_f32_areFinite_1_l2_w0 sn t7 b0 t8 = true ∧ slices_IndexFunc_sf32_f32_areFinite_1_l2_a0_0 sn t7 b0 t8 = r := by
  subst hm
  unfold slices_IndexFunc_sf32_f32_areFinite_1_l2_p slices_IndexFunc_sf32_f32_areFinite_1_l2_w0 slices_IndexFunc_sf32_f32_areFinite_1_l2_a0_0
  rw [h]
  exact ⟨rfl, rfl, rfl⟩
theorem slices_IndexFunc_sf32_f32_areFinite_1_l2_of1 {sn : Nat} {t7 : Int} {b0 : List Nat} {t8 : Int} {m : Nat} {r : Int × Bool} (hm : m = big) (h : L_slices_IndexFunc_sf32_f32_areFinite_1_l2 sn t7 b0 m t8 = some (Sum.inr r)) : slices_IndexFunc_sf32_f32_areFinite_1_l2_p sn t7 b0 t8 = true ∧ slices_IndexFunc_sf32_f32_areFinite_1_l2_w0 sn t7 b0 t8 = false ∧ slices_IndexFunc_sf32_f32_areFinite_1_l2_a1_0 sn t7 b0 t8 = r.1 ∧ slices_IndexFunc_sf32_f32_areFinite_1_l2_a1_1 sn t7 b0 t8 = r.2 := by
  subst hm
  unfold slices_IndexFunc_sf32_f32_areFinite_1_l2_p slices_IndexFunc_sf32_f32_areFinite_1_l2_w0 slices_IndexFunc_sf32_f32_areFinite_1_l2_a1_0 slices_IndexFunc_sf32_f32_areFinite_1_l2_a1_1
  rw [h]
  exact ⟨rfl, rfl, rfl, rfl⟩
noncomputable def T_spec_l04Winds {R : Type} (list_n : Nat) (list : List Nat) (k_ : Bool → Option R) : Option R := (grd (spec_l04Winds_l2_p list_n list 0) (br (spec_l04Winds_l2_w0 list_n list 0) (k_ Bool.false) (br (leI 1 (Int.ofNat list_n)) (k_ (leI (Int.ofNat list_n) 256)) (k_ Bool.false))))
noncomputable def F_spec_l04Winds (list_n : Nat) (list : List Nat) : Option (Bool) := T_spec_l04Winds list_n list (fun c0_ => some c0_)
theorem T_spec_l04Winds_nat {R R' : Type} (o : Option R → Option R') (h0 : o none = none) (list_n : Nat) (list : List Nat) (k_ : Bool → Option R) : T_spec_l04Winds list_n list (fun c0_ => o (k_ c0_)) = o (T_spec_l04Winds list_n list k_) := by
  unfold T_spec_l04Winds
  repeat (first | refine grd_out h0 ?_ | refine br_out ?_ ?_ | rfl | exact h0.symm)
noncomputable def spec_l04Winds_p (list_n : Nat) (list : List Nat) : Bool := (F_spec_l04Winds list_n list).isSome
noncomputable def spec_l04Winds_v0 (list_n : Nat) (list : List Nat) : Bool := ((F_spec_l04Winds list_n list).getD default)
theorem spec_l04Winds_of {list_n : Nat} {list : List Nat} {r : Bool} (h : F_spec_l04Winds list_n list = some r) : spec_l04Winds_p list_n list = true ∧ spec_l04Winds_v0 list_n list = r := by
  unfold spec_l04Winds_p spec_l04Winds_v0
  rw [h]
  exact ⟨rfl, rfl⟩
noncomputable def T_slices_IndexFunc_sf32_f32_areFinite_1 {R : Type} (s_n : Nat) (s : List Nat) (k_ : Int → Option R) : Option R := (grd (slices_IndexFunc_sf32_f32_areFinite_1_l2_p s_n (Int.ofNat s_n) s 0) (br (slices_IndexFunc_sf32_f32_areFinite_1_l2_w0 s_n (Int.ofNat s_n) s 0) (k_ (slices_IndexFunc_sf32_f32_areFinite_1_l2_a0_0 s_n (Int.ofNat s_n) s 0)) (k_ (Int.negSucc 0))))
noncomputable def F_slices_IndexFunc_sf32_f32_areFinite_1 (s_n : Nat) (s : List Nat) : Option (Int) := T_slices_IndexFunc_sf32_f32_areFinite_1 s_n s (fun c0_ => some c0_)
theorem T_slices_IndexFunc_sf32_f32_areFinite_1_nat {R R' : Type} (o : Option R → Option R') (h0 : o none = none) (s_n : Nat) (s : List Nat) (k_ : Int → Option R) : T_slices_IndexFunc_sf32_f32_areFinite_1 s_n s (fun c0_ => o (k_ c0_)) = o (T_slices_IndexFunc_sf32_f32_areFinite_1 s_n s k_) := by
  unfold T_slices_IndexFunc_sf32_f32_areFinite_1
  repeat (first | refine grd_out h0 ?_ | refine br_out ?_ ?_ | rfl | exact h0.symm)
noncomputable def slices_IndexFunc_sf32_f32_areFinite_1_p (s_n : Nat) (s : List Nat) : Bool := (F_slices_IndexFunc_sf32_f32_areFinite_1 s_n s).isSome
noncomputable def slices_IndexFunc_sf32_f32_areFinite_1_v0 (s_n : Nat) (s : List Nat) : Int := ((F_slices_IndexFunc_sf32_f32_areFinite_1 s_n s).getD default)
theorem slices_IndexFunc_sf32_f32_areFinite_1_of {s_n : Nat} {s : List Nat} {r : Int} (h : F_slices_IndexFunc_sf32_f32_areFinite_1 s_n s = some r) : slices_IndexFunc_sf32_f32_areFinite_1_p s_n s = true ∧ slices_IndexFunc_sf32_f32_areFinite_1_v0 s_n s = r := by
  unfold slices_IndexFunc_sf32_f32_areFinite_1_p slices_IndexFunc_sf32_f32_areFinite_1_v0
  rw [h]
  exact ⟨rfl, rfl⟩
noncomputable def T_spec_l04Smooth_l3 {R : Type} (listn : Nat) (window : Int) (b0 : List Nat) (outn : Nat) (i : Int) (b1 : List Nat) (kn_ : Nat → Int → (List Nat) → Option R) (k0_ : Unit → Option R) (k1_ : Nat → Int → Bool → (List Nat) → Option R) : Option R := (br (leI (addI IntKind.i64 i window) (Int.ofNat listn)) (grd (okSl i (addI IntKind.i64 i window) listn) (grd (spec_l04Mean_p (slN i (addI IntKind.i64 i window)) (pF b0 (ixO 0 i 1) (muN (slN i (addI IntKind.i64 i window)) 1))) (grd (spec_l01Finite_p (spec_l04Mean_v0 (slN i (addI IntKind.i64 i window)) (pF b0 (ixO 0 i 1) (muN (slN i (addI IntKind.i64 i window)) 1)))) (br (bnot (spec_l01Finite_v0 (spec_l04Mean_v0 (slN i (addI IntKind.i64 i window)) (pF b0 (ixO 0 i 1) (muN (slN i (addI IntKind.i64 i window)) 1))))) (k0_ ()) (grd (okA2 outn 1 4 (nF (pF [(spec_l04Mean_v0 (slN i (addI IntKind.i64 i window)) (pF b0 (ixO 0 i 1) (muN (slN i (addI IntKind.i64 i window)) 1)))] 0 (muN 1 1))) (nF b1) 1) (kn_ (adN outn 1) (addI IntKind.i64 i 1) (aF b1 (pF [(spec_l04Mean_v0 (slN i (addI IntKind.i64 i window)) (pF b0 (ixO 0 i 1) (muN (slN i (addI IntKind.i64 i window)) 1)))] 0 (muN 1 1))))))))) (k1_ outn i (leI (addI IntKind.i64 i window) (Int.ofNat listn)) b1))
theorem T_spec_l04Smooth_l3_nat {R R' : Type} (o : Option R → Option R') (h0 : o none = none) (listn : Nat) (window : Int) (b0 : List Nat) (outn : Nat) (i : Int) (b1 : List Nat) (kn_ : Nat → Int → (List Nat) → Option R) (k0_ : Unit → Option R) (k1_ : Nat → Int → Bool → (List Nat) → Option R) : T_spec_l04Smooth_l3 listn window b0 outn i b1 (fun outn' i' b1' => o (kn_ outn' i' b1')) (fun _ => o (k0_ ())) (fun c0_ c1_ c2_ c3_ => o (k1_ c0_ c1_ c2_ c3_)) = o (T_spec_l04Smooth_l3 listn window b0 outn i b1 kn_ k0_ k1_) := by
  unfold T_spec_l04Smooth_l3
  repeat (first | refine grd_out h0 ?_ | refine br_out ?_ ?_ | rfl | exact h0.symm)
noncomputable def L_spec_l04Smooth_l3 (listn : Nat) (window : Int) (b0 : List Nat) : Nat → Nat → Int → (List Nat) → Option ((Unit) ⊕ (Nat × Int × Bool × (List Nat)))
  | 0, _, _, _ => none
  | n + 1, outn, i, b1 => T_spec_l04Smooth_l3 listn window b0  outn i b1  (fun outn' i' b1' => L_spec_l04Smooth_l3 listn window b0 n outn' i' b1') (fun _ => some (Sum.inl ())) (fun c0_ c1_ c2_ c3_ => some (Sum.inr (c0_, c1_, c2_, c3_)))
theorem L_spec_l04Smooth_l3_succ (listn : Nat) (window : Int) (b0 : List Nat) (n : Nat) (outn : Nat) (i : Int) (b1 : List Nat) : L_spec_l04Smooth_l3 listn window b0 (n + 1) outn i b1 = T_spec_l04Smooth_l3 listn window b0  outn i b1  (fun outn' i' b1' => L_spec_l04Smooth_l3 listn window b0 n outn' i' b1') (fun _ => some (Sum.inl ())) (fun c0_ c1_ c2_ c3_ => some (Sum.inr (c0_, c1_, c2_, c3_))) := rfl
noncomputable def spec_l04Smooth_l3_p (listn : Nat) (window : Int) (b0 : List Nat) (outn : Nat) (i : Int) (b1 : List Nat) : Bool := (L_spec_l04Smooth_l3 listn window b0 big outn i b1).isSome
noncomputable def spec_l04Smooth_l3_w0 (listn : Nat) (window : Int) (b0 : List Nat) (outn : Nat) (i : Int) (b1 : List Nat) : Bool := oL (L_spec_l04Smooth_l3 listn window b0 big outn i b1)
noncomputable def spec_l04Smooth_l3_a1_0 (listn : Nat) (window : Int) (b0 : List Nat) (outn : Nat) (i : Int) (b1 : List Nat) : Nat := ((tR (L_spec_l04Smooth_l3 listn window b0 big outn i b1)).getD default).1
noncomputable def spec_l04Smooth_l3_a1_1 (listn : Nat) (window : Int) (b0 : List Nat) (outn : Nat) (i : Int) (b1 : List Nat) : Int := ((tR (L_spec_l04Smooth_l3 listn window b0 big outn i b1)).getD default).2.1
noncomputable def spec_l04Smooth_l3_a1_2 (listn : Nat) (window : Int) (b0 : List Nat) (outn : Nat) (i : Int) (b1 : List Nat) : Bool := ((tR (L_spec_l04Smooth_l3 listn window b0 big outn i b1)).getD default).2.2.1
noncomputable def spec_l04Smooth_l3_a1_3 (listn : Nat) (window : Int) (b0 : List Nat) (outn : Nat) (i : Int) (b1 : List Nat) : List Nat := ((tR (L_spec_l04Smooth_l3 listn window b0 big outn i b1)).getD default).2.2.2
theorem spec_l04Smooth_l3_of0 {listn : Nat} {window : Int} {b0 : List Nat} {outn : Nat} {i : Int} {b1 : List Nat} {m : Nat} {r : Unit} (hm : m = big) (h : L_spec_l04Smooth_l3 listn window b0 m outn i b1 = some (Sum.inl r)) : spec_l04Smooth_l3_p listn window b0 outn i b1 = true ∧ spec_l04Smooth_l3_w0 listn window b0 outn i b1 = true := by
  subst hm
  unfold spec_l04Smooth_l3_p spec_l04Smooth_l3_w0
  rw [h]
  exact ⟨rfl, rfl⟩
theorem spec_l04Smooth_l3_of1 {listn : Nat} {window : Int} {b0 : List Nat} {outn : Nat} {i : Int} {b1 : List Nat} {m : Nat} {r : Nat × Int × Bool × (List Nat)} (hm : m = big) (h : L_spec_l04Smooth_l3 listn window b0 m outn i b1 = some (Sum.inr r)) : spec_l04Smooth_l3_p listn window b0 outn i b1 = true ∧ spec_l04Smooth_l3_w0 listn window b0 outn i b1 = false ∧ spec_l04Smooth_l3_a1_0 listn window b0 outn i b1 = r.1 ∧ spec_l04Smooth_l3_a1_1 listn window b0 outn i b1 = r.2.1 ∧ spec_l04Smooth_l3_a1_2 listn window b0 outn i b1 = r.2.2.1 ∧ spec_l04Smooth_l3_a1_3 listn window b0 outn i b1 = r.2.2.2 := by
  subst hm
  unfold spec_l04Smooth_l3_p spec_l04Smooth_l3_w0 spec_l04Smooth_l3_a1_0 spec_l04Smooth_l3_a1_1 spec_l04Smooth_l3_a1_2 spec_l04Smooth_l3_a1_3
  rw [h]
  exact ⟨rfl, rfl, rfl, rfl, rfl, rfl⟩
noncomputable def T_slices_IndexFunc_sf32_f32_areLeast_1_l2 {R : Type} (sn : Nat) (t7 : Int) (b0 : List Nat) (t8 : Int) (kn_ : Int → Option R) (k0_ : Int → Option R) (k1_ : Int → Bool → Option R) : Option R := (br (ltI t8 t7) (grd (okIx t8 sn) (grd (impl_areLeast_1_p (gF b0 (ixO 0 t8 1))) (br (impl_areLeast_1_v0 (gF b0 (ixO 0 t8 1))) (k0_ t8) (kn_ (addI IntKind.i64 t8 1))))) (k1_ t8 (ltI t8 t7)))
theorem T_slices_IndexFunc_sf32_f32_areLeast_1_l2_nat {R R' : Type} (o : Option R → Option R') (h0 : o none = none) (sn : Nat) (t7 : Int) (b0 : List Nat) (t8 : Int) (kn_ : Int → Option R) (k0_ : Int → Option R) (k1_ : Int → Bool → Option R) : T_slices_IndexFunc_sf32_f32_areLeast_1_l2 sn t7 b0 t8 (fun t8' => o (kn_ t8')) (fun c0_ => o (k0_ c0_)) (fun c0_ c1_ => o (k1_ c0_ c1_)) = o (T_slices_IndexFunc_sf32_f32_areLeast_1_l2 sn t7 b0 t8 kn_ k0_ k1_) := by
  unfold T_slices_IndexFunc_sf32_f32_areLeast_1_l2
  repeat (first | refine grd_out h0 ?_ | refine br_out ?_ ?_ | rfl | exact h0.symm)
noncomputable def L_slices_IndexFunc_sf32_f32_areLeast_1_l2 (sn : Nat) (t7 : Int) (b0 : List Nat) : Nat → Int → Option ((Int) ⊕ (Int × Bool))
  | 0, _ => none
  | n + 1, t8 => T_slices_IndexFunc_sf32_f32_areLeast_1_l2 sn t7 b0  t8  (fun t8' => L_slices_IndexFunc_sf32_f32_areLeast_1_l2 sn t7 b0 n t8') (fun c0_ => some (Sum.inl c0_)) (fun c0_ c1_ => some (Sum.inr (c0_, c1_)))
theorem L_slices_IndexFunc_sf32_f32_areLeast_1_l2_succ (sn : Nat) (t7 : Int) (b0 : List Nat) (n : Nat) (t8 : Int) : L_slices_IndexFunc_sf32_f32_areLeast_1_l2 sn t7 b0 (n + 1) t8 = T_slices_IndexFunc_sf32_f32_areLeast_1_l2 sn t7 b0  t8  (fun t8' => L_slices_IndexFunc_sf32_f32_areLeast_1_l2 sn t7 b0 n t8') (fun c0_ => some (Sum.inl c0_)) (fun c0_ c1_ => some (Sum.inr (c0_, c1_))) := rfl
noncomputable def slices_IndexFunc_sf32_f32_areLeast_1_l2_p (sn : Nat) (t7 : Int) (b0 : List Nat) (t8 : Int) : Bool := (L_slices_IndexFunc_sf32_f32_areLeast_1_l2 sn t7 b0 big t8).isSome
noncomputable def slices_IndexFunc_sf32_f32_areLeast_1_l2_w0 (sn : Nat) (t7 : Int) (b0 : List Nat) (t8 : Int) : Bool := oL (L_slices_IndexFunc_sf32_f32_areLeast_1_l2 sn t7 b0 big t8)
noncomputable def slices_IndexFunc_sf32_f32_areLeast_1_l2_a0_0 (sn : Nat) (t7 : Int) (b0 : List Nat) (t8 : Int) : Int := ((tL (L_slices_IndexFunc_sf32_f32_areLeast_1_l2 sn t7 b0 big t8)).getD default)
noncomputable def slices_IndexFunc_sf32_f32_areLeast_1_l2_a1_0 (sn : Nat) (t7 : Int) (b0 : List Nat) (t8 : Int) : Int := ((tR (L_slices_IndexFunc_sf32_f32_areLeast_1_l2 sn t7 b0 big t8)).getD default).1
noncomputable def slices_IndexFunc_sf32_f32_areLeast_1_l2_a1_1 (sn : Nat) (t7 : Int) (b0 : List Nat) (t8 : Int) : Bool := ((tR (L_slices_IndexFunc_sf32_f32_areLeast_1_l2 sn t7 b0 big t8)).getD default).2
theorem slices_IndexFunc_sf32_f32_areLeast_1_l2_of0 {sn : Nat} {t7 : Int} {b0 : List Nat} {t8 : Int} {m : Nat} {r : Int} (hm : m = big) (h : L_slices_IndexFunc_sf32_f32_areLeast_1_l2 sn t7 b0 m t8 = some (Sum.inl r)) : slices_IndexFunc_sf32_f32_areLeast_1_l2_p sn t7 b0 t8 = true ∧ slices_IndexFunc_sf32_f32_areLeast_1_l2_w0 sn t7 b0 t8 = true ∧ slices_IndexFunc_sf32_f32_areLeast_1_l2_a0_0 sn t7 b0 t8 = r := by
  subst hm
  unfold slices_IndexFunc_sf32_f32_areLeast_1_l2_p slices_IndexFunc_sf32_f32_areLeast_1_l2_w0 slices_IndexFunc_sf32_f32_areLeast_1_l2_a0_0
  rw [h]
  exact ⟨rfl, rfl, rfl⟩
theorem slices_IndexFunc_sf32_f32_areLeast_1_l2_of1 {sn : Nat} {t7 : Int} {b0 : List Nat} {t8 : Int} {m : Nat} {r : Int × Bool} (hm : m = big) (h : L_slices_IndexFunc_sf32_f32_areLeast_1_l2 sn t7 b0 m t8 = some (Sum.inr r)) : slices_IndexFunc_sf32_f32_areLeast_1_l2_p sn t7 b0 t8 = true ∧ slices_IndexFunc_sf32_f32_areLeast_1_l2_w0 sn t7 b0 t8 = false ∧ slices_IndexFunc_sf32_f32_areLeast_1_l2_a1_0 sn t7 b0 t8 = r.1 ∧ slices_IndexFunc_sf32_f32_areLeast_1_l2_a1_1 sn t7 b0 t8 = r.2 := by
  subst hm
  unfold slices_IndexFunc_sf32_f32_areLeast_1_l2_p slices_IndexFunc_sf32_f32_areLeast_1_l2_w0 slices_IndexFunc_sf32_f32_areLeast_1_l2_a1_0 slices_IndexFunc_sf32_f32_areLeast_1_l2_a1_1
  rw [h]
  exact ⟨rfl, rfl, rfl, rfl⟩
noncomputable def T_spec_l04Smooth {R : Type} (list_n : Nat) (list : List Nat) (window : Int) (k_ : Nat → Bool → (List Nat) → Option R) : Option R := (grd (spec_l04Smooth_l3_p list_n window list 0 0 []) (br (spec_l04Smooth_l3_w0 list_n window list 0 0 []) (k_ 0 Bool.false []) (k_ (spec_l04Smooth_l3_a1_0 list_n window list 0 0 []) Bool.true (spec_l04Smooth_l3_a1_3 list_n window list 0 0 []))))
noncomputable def F_spec_l04Smooth (list_n : Nat) (list : List Nat) (window : Int) : Option (Nat × Bool × (List Nat)) := T_spec_l04Smooth list_n list window (fun c0_ c1_ c2_ => some (c0_, c1_, c2_))
theorem T_spec_l04Smooth_nat {R R' : Type} (o : Option R → Option R') (h0 : o none = none) (list_n : Nat) (list : List Nat) (window : Int) (k_ : Nat → Bool → (List Nat) → Option R) : T_spec_l04Smooth list_n list window (fun c0_ c1_ c2_ => o (k_ c0_ c1_ c2_)) = o (T_spec_l04Smooth list_n list window k_) := by
  unfold T_spec_l04Smooth
  repeat (first | refine grd_out h0 ?_ | refine br_out ?_ ?_ | rfl | exact h0.symm)
noncomputable def spec_l04Smooth_p (list_n : Nat) (list : List Nat) (window : Int) : Bool := (F_spec_l04Smooth list_n list window).isSome
noncomputable def spec_l04Smooth_v0 (list_n : Nat) (list : List Nat) (window : Int) : Nat := ((F_spec_l04Smooth list_n list window).getD default).1
noncomputable def spec_l04Smooth_v1 (list_n : Nat) (list : List Nat) (window : Int) : Bool := ((F_spec_l04Smooth list_n list window).getD default).2.1
noncomputable def spec_l04Smooth_v2 (list_n : Nat) (list : List Nat) (window : Int) : List Nat := ((F_spec_l04Smooth list_n list window).getD default).2.2
theorem spec_l04Smooth_of {list_n : Nat} {list : List Nat} {window : Int} {r : Nat × Bool × (List Nat)} (h : F_spec_l04Smooth list_n list window = some r) : spec_l04Smooth_p list_n list window = true ∧ spec_l04Smooth_v0 list_n list window = r.1 ∧ spec_l04Smooth_v1 list_n list window = r.2.1 ∧ spec_l04Smooth_v2 list_n list window = r.2.2 := by
  unfold spec_l04Smooth_p spec_l04Smooth_v0 spec_l04Smooth_v1 spec_l04Smooth_v2
  rw [h]
  exact ⟨rfl, rfl, rfl, rfl⟩
noncomputable def T_slices_IndexFunc_sf32_f32_areLeast_1 {R : Type} (s_n : Nat) (s : List Nat) (k_ : Int → Option R) : Option R := (grd (slices_IndexFunc_sf32_f32_areLeast_1_l2_p s_n (Int.ofNat s_n) s 0) (br (slices_IndexFunc_sf32_f32_areLeast_1_l2_w0 s_n (Int.ofNat s_n) s 0) (k_ (slices_IndexFunc_sf32_f32_areLeast_1_l2_a0_0 s_n (Int.ofNat s_n) s 0)) (k_ (Int.negSucc 0))))
noncomputable def F_slices_IndexFunc_sf32_f32_areLeast_1 (s_n : Nat) (s : List Nat) : Option (Int) := T_slices_IndexFunc_sf32_f32_areLeast_1 s_n s (fun c0_ => some c0_)
theorem T_slices_IndexFunc_sf32_f32_areLeast_1_nat {R R' : Type} (o : Option R → Option R') (h0 : o none = none) (s_n : Nat) (s : List Nat) (k_ : Int → Option R) : T_slices_IndexFunc_sf32_f32_areLeast_1 s_n s (fun c0_ => o (k_ c0_)) = o (T_slices_IndexFunc_sf32_f32_areLeast_1 s_n s k_) := by
  unfold T_slices_IndexFunc_sf32_f32_areLeast_1
  repeat (first | refine grd_out h0 ?_ | refine br_out ?_ ?_ | rfl | exact h0.symm)
noncomputable def slices_IndexFunc_sf32_f32_areLeast_1_p (s_n : Nat) (s : List Nat) : Bool := (F_slices_IndexFunc_sf32_f32_areLeast_1 s_n s).isSome
noncomputable def slices_IndexFunc_sf32_f32_areLeast_1_v0 (s_n : Nat) (s : List Nat) : Int := ((F_slices_IndexFunc_sf32_f32_areLeast_1 s_n s).getD default)
theorem slices_IndexFunc_sf32_f32_areLeast_1_of {s_n : Nat} {s : List Nat} {r : Int} (h : F_slices_IndexFunc_sf32_f32_areLeast_1 s_n s = some r) : slices_IndexFunc_sf32_f32_areLeast_1_p s_n s = true ∧ slices_IndexFunc_sf32_f32_areLeast_1_v0 s_n s = r := by
  unfold slices_IndexFunc_sf32_f32_areLeast_1_p slices_IndexFunc_sf32_f32_areLeast_1_v0
  rw [h]
  exact ⟨rfl, rfl⟩
noncomputable def T_spec_SmoothWinds {R : Type} (list_n : Nat) (list : List Nat) (window : Int) (k_ : Nat → Bool → (List Nat) → Option R) : Option R := (grd (spec_l04Winds_p list_n (pF list 0 (muN list_n 1))) (br (bnot (spec_l04Winds_v0 list_n (pF list 0 (muN list_n 1)))) (k_ 0 Bool.false []) (grd (spec_l00In_p window 1 (Int.ofNat list_n)) (br (bnot (spec_l00In_v0 window 1 (Int.ofNat list_n))) (k_ 0 Bool.false []) (grd (spec_l04Smooth_p list_n (pF list 0 (muN list_n 1)) window) (k_ (spec_l04Smooth_v0 list_n (pF list 0 (muN list_n 1)) window) (spec_l04Smooth_v1 list_n (pF list 0 (muN list_n 1)) window) (spec_l04Smooth_v2 list_n (pF list 0 (muN list_n 1)) window)))))))
noncomputable def F_spec_SmoothWinds (list_n : Nat) (list : List Nat) (window : Int) : Option (Nat × Bool × (List Nat)) := T_spec_SmoothWinds list_n list window (fun c0_ c1_ c2_ => some (c0_, c1_, c2_))
theorem T_spec_SmoothWinds_nat {R R' : Type} (o : Option R → Option R') (h0 : o none = none) (list_n : Nat) (list : List Nat) (window : Int) (k_ : Nat → Bool → (List Nat) → Option R) : T_spec_SmoothWinds list_n list window (fun c0_ c1_ c2_ => o (k_ c0_ c1_ c2_)) = o (T_spec_SmoothWinds list_n list window k_) := by
  unfold T_spec_SmoothWinds
  repeat (first | refine grd_out h0 ?_ | refine br_out ?_ ?_ | rfl | exact h0.symm)
noncomputable def spec_SmoothWinds_p (list_n : Nat) (list : List Nat) (window : Int) : Bool := (F_spec_SmoothWinds list_n list window).isSome
noncomputable def spec_SmoothWinds_v0 (list_n : Nat) (list : List Nat) (window : Int) : Nat := ((F_spec_SmoothWinds list_n list window).getD default).1
noncomputable def spec_SmoothWinds_v1 (list_n : Nat) (list : List Nat) (window : Int) : Bool := ((F_spec_SmoothWinds list_n list window).getD default).2.1
noncomputable def spec_SmoothWinds_v2 (list_n : Nat) (list : List Nat) (window : Int) : List Nat := ((F_spec_SmoothWinds list_n list window).getD default).2.2
theorem spec_SmoothWinds_of {list_n : Nat} {list : List Nat} {window : Int} {r : Nat × Bool × (List Nat)} (h : F_spec_SmoothWinds list_n list window = some r) : spec_SmoothWinds_p list_n list window = true ∧ spec_SmoothWinds_v0 list_n list window = r.1 ∧ spec_SmoothWinds_v1 list_n list window = r.2.1 ∧ spec_SmoothWinds_v2 list_n list window = r.2.2 := by
  unfold spec_SmoothWinds_p spec_SmoothWinds_v0 spec_SmoothWinds_v1 spec_SmoothWinds_v2
  rw [h]
  exact ⟨rfl, rfl, rfl, rfl⟩
noncomputable def T_slices_ContainsFunc_sf32_f32_areFinite_1 {R : Type} (s_n : Nat) (s : List Nat) (k_ : Bool → Option R) : Option R := (grd (slices_IndexFunc_sf32_f32_areFinite_1_p s_n (pF s 0 (muN s_n 1))) (k_ (leI 0 (slices_IndexFunc_sf32_f32_areFinite_1_v0 s_n (pF s 0 (muN s_n 1))))))
noncomputable def F_slices_ContainsFunc_sf32_f32_areFinite_1 (s_n : Nat) (s : List Nat) : Option (Bool) := T_slices_ContainsFunc_sf32_f32_areFinite_1 s_n s (fun c0_ => some c0_)
theorem T_slices_ContainsFunc_sf32_f32_areFinite_1_nat {R R' : Type} (o : Option R → Option R') (h0 : o none = none) (s_n : Nat) (s : List Nat) (k_ : Bool → Option R) : T_slices_ContainsFunc_sf32_f32_areFinite_1 s_n s (fun c0_ => o (k_ c0_)) = o (T_slices_ContainsFunc_sf32_f32_areFinite_1 s_n s k_) := by
  unfold T_slices_ContainsFunc_sf32_f32_areFinite_1
  repeat (first | refine grd_out h0 ?_ | refine br_out ?_ ?_ | rfl | exact h0.symm)
noncomputable def slices_ContainsFunc_sf32_f32_areFinite_1_p (s_n : Nat) (s : List Nat) : Bool := (F_slices_ContainsFunc_sf32_f32_areFinite_1 s_n s).isSome
noncomputable def slices_ContainsFunc_sf32_f32_areFinite_1_v0 (s_n : Nat) (s : List Nat) : Bool := ((F_slices_ContainsFunc_sf32_f32_areFinite_1 s_n s).getD default)
theorem slices_ContainsFunc_sf32_f32_areFinite_1_of {s_n : Nat} {s : List Nat} {r : Bool} (h : F_slices_ContainsFunc_sf32_f32_areFinite_1 s_n s = some r) : slices_ContainsFunc_sf32_f32_areFinite_1_p s_n s = true ∧ slices_ContainsFunc_sf32_f32_areFinite_1_v0 s_n s = r := by
  unfold slices_ContainsFunc_sf32_f32_areFinite_1_p slices_ContainsFunc_sf32_f32_areFinite_1_v0
  rw [h]
  exact ⟨rfl, rfl⟩
noncomputable def T_slices_ContainsFunc_sf32_f32_areLeast_1 {R : Type} (s_n : Nat) (s : List Nat) (k_ : Bool → Option R) : Option R := (grd (slices_IndexFunc_sf32_f32_areLeast_1_p s_n (pF s 0 (muN s_n 1))) (k_ (leI 0 (slices_IndexFunc_sf32_f32_areLeast_1_v0 s_n (pF s 0 (muN s_n 1))))))
noncomputable def F_slices_ContainsFunc_sf32_f32_areLeast_1 (s_n : Nat) (s : List Nat) : Option (Bool) := T_slices_ContainsFunc_sf32_f32_areLeast_1 s_n s (fun c0_ => some c0_)
theorem T_slices_ContainsFunc_sf32_f32_areLeast_1_nat {R R' : Type} (o : Option R → Option R') (h0 : o none = none) (s_n : Nat) (s : List Nat) (k_ : Bool → Option R) : T_slices_ContainsFunc_sf32_f32_areLeast_1 s_n s (fun c0_ => o (k_ c0_)) = o (T_slices_ContainsFunc_sf32_f32_areLeast_1 s_n s k_) := by
  unfold T_slices_ContainsFunc_sf32_f32_areLeast_1
  repeat (first | refine grd_out h0 ?_ | refine br_out ?_ ?_ | rfl | exact h0.symm)
noncomputable def slices_ContainsFunc_sf32_f32_areLeast_1_p (s_n : Nat) (s : List Nat) : Bool := (F_slices_ContainsFunc_sf32_f32_areLeast_1 s_n s).isSome
noncomputable def slices_ContainsFunc_sf32_f32_areLeast_1_v0 (s_n : Nat) (s : List Nat) : Bool := ((F_slices_ContainsFunc_sf32_f32_areLeast_1 s_n s).getD default)
theorem slices_ContainsFunc_sf32_f32_areLeast_1_of {s_n : Nat} {s : List Nat} {r : Bool} (h : F_slices_ContainsFunc_sf32_f32_areLeast_1 s_n s = some r) : slices_ContainsFunc_sf32_f32_areLeast_1_p s_n s = true ∧ slices_ContainsFunc_sf32_f32_areLeast_1_v0 s_n s = r := by
  unfold slices_ContainsFunc_sf32_f32_areLeast_1_p slices_ContainsFunc_sf32_f32_areLeast_1_v0
  rw [h]
  exact ⟨rfl, rfl⟩
noncomputable def T_impl_areFinite {R : Type} (list_n : Nat) (list : List Nat) (k_ : Bool → Option R) : Option R := (grd (slices_ContainsFunc_sf32_f32_areFinite_1_p list_n (pF list 0 (muN list_n 1))) (k_ (bnot (slices_ContainsFunc_sf32_f32_areFinite_1_v0 list_n (pF list 0 (muN list_n 1))))))
noncomputable def F_impl_areFinite (list_n : Nat) (list : List Nat) : Option (Bool) := T_impl_areFinite list_n list (fun c0_ => some c0_)
theorem T_impl_areFinite_nat {R R' : Type} (o : Option R → Option R') (h0 : o none = none) (list_n : Nat) (list : List Nat) (k_ : Bool → Option R) : T_impl_areFinite list_n list (fun c0_ => o (k_ c0_)) = o (T_impl_areFinite list_n list k_) := by
  unfold T_impl_areFinite
  repeat (first | refine grd_out h0 ?_ | refine br_out ?_ ?_ | rfl | exact h0.symm)
noncomputable def impl_areFinite_p (list_n : Nat) (list : List Nat) : Bool := (F_impl_areFinite list_n list).isSome
noncomputable def impl_areFinite_v0 (list_n : Nat) (list : List Nat) : Bool := ((F_impl_areFinite list_n list).getD default)
theorem impl_areFinite_of {list_n : Nat} {list : List Nat} {r : Bool} (h : F_impl_areFinite list_n list = some r) : impl_areFinite_p list_n list = true ∧ impl_areFinite_v0 list_n list = r := by
  unfold impl_areFinite_p impl_areFinite_v0
  rw [h]
  exact ⟨rfl, rfl⟩
noncomputable def T_impl_areLeast {R : Type} (list_n : Nat) (list : List Nat) (k_ : Bool → Option R) : Option R := (grd (slices_ContainsFunc_sf32_f32_areLeast_1_p list_n (pF list 0 (muN list_n 1))) (k_ (bnot (slices_ContainsFunc_sf32_f32_areLeast_1_v0 list_n (pF list 0 (muN list_n 1))))))
noncomputable def F_impl_areLeast (list_n : Nat) (list : List Nat) : Option (Bool) := T_impl_areLeast list_n list (fun c0_ => some c0_)
theorem T_impl_areLeast_nat {R R' : Type} (o : Option R → Option R') (h0 : o none = none) (list_n : Nat) (list : List Nat) (k_ : Bool → Option R) : T_impl_areLeast list_n list (fun c0_ => o (k_ c0_)) = o (T_impl_areLeast list_n list k_) := by
  unfold T_impl_areLeast
  repeat (first | refine grd_out h0 ?_ | refine br_out ?_ ?_ | rfl | exact h0.symm)
noncomputable def impl_areLeast_p (list_n : Nat) (list : List Nat) : Bool := (F_impl_areLeast list_n list).isSome
noncomputable def impl_areLeast_v0 (list_n : Nat) (list : List Nat) : Bool := ((F_impl_areLeast list_n list).getD default)
theorem impl_areLeast_of {list_n : Nat} {list : List Nat} {r : Bool} (h : F_impl_areLeast list_n list = some r) : impl_areLeast_p list_n list = true ∧ impl_areLeast_v0 list_n list = r := by
  unfold impl_areLeast_p impl_areLeast_v0
  rw [h]
  exact ⟨rfl, rfl⟩
noncomputable def T_impl_areWinds {R : Type} (list_n : Nat) (list : List Nat) (k_ : Bool → Option R) : Option R := (br (leI 1 (Int.ofNat list_n)) (br (leI (Int.ofNat list_n) 256) (grd (impl_areLeast_p list_n (pF list 0 (muN list_n 1))) (k_ (impl_areLeast_v0 list_n (pF list 0 (muN list_n 1))))) (k_ Bool.false)) (k_ Bool.false))
noncomputable def F_impl_areWinds (list_n : Nat) (list : List Nat) : Option (Bool) := T_impl_areWinds list_n list (fun c0_ => some c0_)
theorem T_impl_areWinds_nat {R R' : Type} (o : Option R → Option R') (h0 : o none = none) (list_n : Nat) (list : List Nat) (k_ : Bool → Option R) : T_impl_areWinds list_n list (fun c0_ => o (k_ c0_)) = o (T_impl_areWinds list_n list k_) := by
  unfold T_impl_areWinds
  repeat (first | refine grd_out h0 ?_ | refine br_out ?_ ?_ | rfl | exact h0.symm)
noncomputable def impl_areWinds_p (list_n : Nat) (list : List Nat) : Bool := (F_impl_areWinds list_n list).isSome
noncomputable def impl_areWinds_v0 (list_n : Nat) (list : List Nat) : Bool := ((F_impl_areWinds list_n list).getD default)
theorem impl_areWinds_of {list_n : Nat} {list : List Nat} {r : Bool} (h : F_impl_areWinds list_n list = some r) : impl_areWinds_p list_n list = true ∧ impl_areWinds_v0 list_n list = r := by
  unfold impl_areWinds_p impl_areWinds_v0
  rw [h]
  exact ⟨rfl, rfl⟩
noncomputable def T_impl_SmoothWinds_l5 {R : Type} (listn : Nat) (window : Int) (t23 : Int) (b0 : List Nat) (outn : Nat) (t24 : Int) (b1 : List Nat) (kn_ : Nat → Int → (List Nat) → Option R) (k0_ : Nat → Int → Bool → (List Nat) → Option R) : Option R := (br (ltI t24 t23) (grd (okSl t24 (addI IntKind.i64 t24 window) listn) (grd (impl_meanOf_p (slN t24 (addI IntKind.i64 t24 window)) (pF b0 (ixO 0 t24 1) (muN (slN t24 (addI IntKind.i64 t24 window)) 1))) (grd (okA2 outn 1 4 (nF (pF [(impl_meanOf_v0 (slN t24 (addI IntKind.i64 t24 window)) (pF b0 (ixO 0 t24 1) (muN (slN t24 (addI IntKind.i64 t24 window)) 1)))] 0 (muN 1 1))) (nF b1) 1) (kn_ (adN outn 1) (addI IntKind.i64 t24 1) (aF b1 (pF [(impl_meanOf_v0 (slN t24 (addI IntKind.i64 t24 window)) (pF b0 (ixO 0 t24 1) (muN (slN t24 (addI IntKind.i64 t24 window)) 1)))] 0 (muN 1 1))))))) (k0_ outn t24 (ltI t24 t23) b1))
theorem T_impl_SmoothWinds_l5_nat {R R' : Type} (o : Option R → Option R') (h0 : o none = none) (listn : Nat) (window : Int) (t23 : Int) (b0 : List Nat) (outn : Nat) (t24 : Int) (b1 : List Nat) (kn_ : Nat → Int → (List Nat) → Option R) (k0_ : Nat → Int → Bool → (List Nat) → Option R) : T_impl_SmoothWinds_l5 listn window t23 b0 outn t24 b1 (fun outn' t24' b1' => o (kn_ outn' t24' b1')) (fun c0_ c1_ c2_ c3_ => o (k0_ c0_ c1_ c2_ c3_)) = o (T_impl_SmoothWinds_l5 listn window t23 b0 outn t24 b1 kn_ k0_) := by
  unfold T_impl_SmoothWinds_l5
  repeat (first | refine grd_out h0 ?_ | refine br_out ?_ ?_ | rfl | exact h0.symm)
noncomputable def L_impl_SmoothWinds_l5 (listn : Nat) (window : Int) (t23 : Int) (b0 : List Nat) : Nat → Nat → Int → (List Nat) → Option ((Nat × Int × Bool × (List Nat)))
  | 0, _, _, _ => none
  | n + 1, outn, t24, b1 => T_impl_SmoothWinds_l5 listn window t23 b0  outn t24 b1  (fun outn' t24' b1' => L_impl_SmoothWinds_l5 listn window t23 b0 n outn' t24' b1') (fun c0_ c1_ c2_ c3_ => some (c0_, c1_, c2_, c3_))
theorem L_impl_SmoothWinds_l5_succ (listn : Nat) (window : Int) (t23 : Int) (b0 : List Nat) (n : Nat) (outn : Nat) (t24 : Int) (b1 : List Nat) : L_impl_SmoothWinds_l5 listn window t23 b0 (n + 1) outn t24 b1 = T_impl_SmoothWinds_l5 listn window t23 b0  outn t24 b1  (fun outn' t24' b1' => L_impl_SmoothWinds_l5 listn window t23 b0 n outn' t24' b1') (fun c0_ c1_ c2_ c3_ => some (c0_, c1_, c2_, c3_)) := rfl
noncomputable def impl_SmoothWinds_l5_p (listn : Nat) (window : Int) (t23 : Int) (b0 : List Nat) (outn : Nat) (t24 : Int) (b1 : List Nat) : Bool := (L_impl_SmoothWinds_l5 listn window t23 b0 big outn t24 b1).isSome
noncomputable def impl_SmoothWinds_l5_a0_0 (listn : Nat) (window : Int) (t23 : Int) (b0 : List Nat) (outn : Nat) (t24 : Int) (b1 : List Nat) : Nat := ((L_impl_SmoothWinds_l5 listn window t23 b0 big outn t24 b1).getD default).1
noncomputable def impl_SmoothWinds_l5_a0_1 (listn : Nat) (window : Int) (t23 : Int) (b0 : List Nat) (outn : Nat) (t24 : Int) (b1 : List Nat) : Int := ((L_impl_SmoothWinds_l5 listn window t23 b0 big outn t24 b1).getD default).2.1
noncomputable def impl_SmoothWinds_l5_a0_2 (listn : Nat) (window : Int) (t23 : Int) (b0 : List Nat) (outn : Nat) (t24 : Int) (b1 : List Nat) : Bool := ((L_impl_SmoothWinds_l5 listn window t23 b0 big outn t24 b1).getD default).2.2.1
noncomputable def impl_SmoothWinds_l5_a0_3 (listn : Nat) (window : Int) (t23 : Int) (b0 : List Nat) (outn : Nat) (t24 : Int) (b1 : List Nat) : List Nat := ((L_impl_SmoothWinds_l5 listn window t23 b0 big outn t24 b1).getD default).2.2.2
theorem impl_SmoothWinds_l5_of0 {listn : Nat} {window : Int} {t23 : Int} {b0 : List Nat} {outn : Nat} {t24 : Int} {b1 : List Nat} {m : Nat} {r : Nat × Int × Bool × (List Nat)} (hm : m = big) (h : L_impl_SmoothWinds_l5 listn window t23 b0 m outn t24 b1 = some r) : impl_SmoothWinds_l5_p listn window t23 b0 outn t24 b1 = true ∧ impl_SmoothWinds_l5_a0_0 listn window t23 b0 outn t24 b1 = r.1 ∧ impl_SmoothWinds_l5_a0_1 listn window t23 b0 outn t24 b1 = r.2.1 ∧ impl_SmoothWinds_l5_a0_2 listn window t23 b0 outn t24 b1 = r.2.2.1 ∧ impl_SmoothWinds_l5_a0_3 listn window t23 b0 outn t24 b1 = r.2.2.2 := by
  subst hm
  unfold impl_SmoothWinds_l5_p impl_SmoothWinds_l5_a0_0 impl_SmoothWinds_l5_a0_1 impl_SmoothWinds_l5_a0_2 impl_SmoothWinds_l5_a0_3
  rw [h]
  exact ⟨rfl, rfl, rfl, rfl, rfl⟩
noncomputable def T_impl_SmoothWinds {R : Type} (list_n : Nat) (list : List Nat) (window : Int) (k_ : Nat → Bool → (List Nat) → Option R) : Option R := (grd (impl_areWinds_p list_n (pF list 0 (muN list_n 1))) (br (bnot (impl_areWinds_v0 list_n (pF list 0 (muN list_n 1)))) (k_ 0 Bool.false []) (grd (impl_within_p window 1 (Int.ofNat list_n)) (br (bnot (impl_within_v0 window 1 (Int.ofNat list_n))) (k_ 0 Bool.false []) (grd (impl_SmoothWinds_l5_p list_n window (addI IntKind.i64 (subI IntKind.i64 (Int.ofNat list_n) window) 1) list 0 0 []) (grd (impl_areFinite_p (impl_SmoothWinds_l5_a0_0 list_n window (addI IntKind.i64 (subI IntKind.i64 (Int.ofNat list_n) window) 1) list 0 0 []) (pF (impl_SmoothWinds_l5_a0_3 list_n window (addI IntKind.i64 (subI IntKind.i64 (Int.ofNat list_n) window) 1) list 0 0 []) 0 (muN (impl_SmoothWinds_l5_a0_0 list_n window (addI IntKind.i64 (subI IntKind.i64 (Int.ofNat list_n) window) 1) list 0 0 []) 1))) (br (bnot (impl_areFinite_v0 (impl_SmoothWinds_l5_a0_0 list_n window (addI IntKind.i64 (subI IntKind.i64 (Int.ofNat list_n) window) 1) list 0 0 []) (pF (impl_SmoothWinds_l5_a0_3 list_n window (addI IntKind.i64 (subI IntKind.i64 (Int.ofNat list_n) window) 1) list 0 0 []) 0 (muN (impl_SmoothWinds_l5_a0_0 list_n window (addI IntKind.i64 (subI IntKind.i64 (Int.ofNat list_n) window) 1) list 0 0 []) 1)))) (k_ 0 Bool.false []) (k_ (impl_SmoothWinds_l5_a0_0 list_n window (addI IntKind.i64 (subI IntKind.i64 (Int.ofNat list_n) window) 1) list 0 0 []) Bool.true (impl_SmoothWinds_l5_a0_3 list_n window (addI IntKind.i64 (subI IntKind.i64 (Int.ofNat list_n) window) 1) list 0 0 [])))))))))
noncomputable def F_impl_SmoothWinds (list_n : Nat) (list : List Nat) (window : Int) : Option (Nat × Bool × (List Nat)) := T_impl_SmoothWinds list_n list window (fun c0_ c1_ c2_ => some (c0_, c1_, c2_))
theorem T_impl_SmoothWinds_nat {R R' : Type} (o : Option R → Option R') (h0 : o none = none) (list_n : Nat) (list : List Nat) (window : Int) (k_ : Nat → Bool → (List Nat) → Option R) : T_impl_SmoothWinds list_n list window (fun c0_ c1_ c2_ => o (k_ c0_ c1_ c2_)) = o (T_impl_SmoothWinds list_n list window k_) := by
  unfold T_impl_SmoothWinds
  repeat (first | refine grd_out h0 ?_ | refine br_out ?_ ?_ | rfl | exact h0.symm)
noncomputable def impl_SmoothWinds_p (list_n : Nat) (list : List Nat) (window : Int) : Bool := (F_impl_SmoothWinds list_n list window).isSome
noncomputable def impl_SmoothWinds_v0 (list_n : Nat) (list : List Nat) (window : Int) : Nat := ((F_impl_SmoothWinds list_n list window).getD default).1
noncomputable def impl_SmoothWinds_v1 (list_n : Nat) (list : List Nat) (window : Int) : Bool := ((F_impl_SmoothWinds list_n list window).getD default).2.1
noncomputable def impl_SmoothWinds_v2 (list_n : Nat) (list : List Nat) (window : Int) : List Nat := ((F_impl_SmoothWinds list_n list window).getD default).2.2
theorem impl_SmoothWinds_of {list_n : Nat} {list : List Nat} {window : Int} {r : Nat × Bool × (List Nat)} (h : F_impl_SmoothWinds list_n list window = some r) : impl_SmoothWinds_p list_n list window = true ∧ impl_SmoothWinds_v0 list_n list window = r.1 ∧ impl_SmoothWinds_v1 list_n list window = r.2.1 ∧ impl_SmoothWinds_v2 list_n list window = r.2.2 := by
  unfold impl_SmoothWinds_p impl_SmoothWinds_v0 impl_SmoothWinds_v1 impl_SmoothWinds_v2
  rw [h]
  exact ⟨rfl, rfl, rfl, rfl⟩
noncomputable def T_laws_FnExactSmoothWinds__markFloat32S_l2 {R : Type} (an : Nat) (k : Int) (i : Int) (b2 : List Nat) (kn_ : Int → Int → (List Nat) → Option R) (k0_ : Int → Int → Bool → (List Nat) → Option R) : Option R := (br (ltI i (Int.ofNat an)) (grd (okIx i an) (kn_ (addI IntKind.i64 k 1) (addI IntKind.i64 i 1) (sF b2 (ixO 0 i 1) (fOI FloatKind.f32 k)))) (k0_ k i (ltI i (Int.ofNat an)) b2))
theorem T_laws_FnExactSmoothWinds__markFloat32S_l2_nat {R R' : Type} (o : Option R → Option R') (h0 : o none = none) (an : Nat) (k : Int) (i : Int) (b2 : List Nat) (kn_ : Int → Int → (List Nat) → Option R) (k0_ : Int → Int → Bool → (List Nat) → Option R) : T_laws_FnExactSmoothWinds__markFloat32S_l2 an k i b2 (fun k' i' b2' => o (kn_ k' i' b2')) (fun c0_ c1_ c2_ c3_ => o (k0_ c0_ c1_ c2_ c3_)) = o (T_laws_FnExactSmoothWinds__markFloat32S_l2 an k i b2 kn_ k0_) := by
  unfold T_laws_FnExactSmoothWinds__markFloat32S_l2
  repeat (first | refine grd_out h0 ?_ | refine br_out ?_ ?_ | rfl | exact h0.symm)
noncomputable def L_laws_FnExactSmoothWinds__markFloat32S_l2 (an : Nat) : Nat → Int → Int → (List Nat) → Option ((Int × Int × Bool × (List Nat)))
  | 0, _, _, _ => none
  | n + 1, k, i, b2 => T_laws_FnExactSmoothWinds__markFloat32S_l2 an  k i b2  (fun k' i' b2' => L_laws_FnExactSmoothWinds__markFloat32S_l2 an n k' i' b2') (fun c0_ c1_ c2_ c3_ => some (c0_, c1_, c2_, c3_))
theorem L_laws_FnExactSmoothWinds__markFloat32S_l2_succ (an : Nat) (n : Nat) (k : Int) (i : Int) (b2 : List Nat) : L_laws_FnExactSmoothWinds__markFloat32S_l2 an (n + 1) k i b2 = T_laws_FnExactSmoothWinds__markFloat32S_l2 an  k i b2  (fun k' i' b2' => L_laws_FnExactSmoothWinds__markFloat32S_l2 an n k' i' b2') (fun c0_ c1_ c2_ c3_ => some (c0_, c1_, c2_, c3_)) := rfl
noncomputable def laws_FnExactSmoothWinds__markFloat32S_l2_p (an : Nat) (k : Int) (i : Int) (b2 : List Nat) : Bool := (L_laws_FnExactSmoothWinds__markFloat32S_l2 an big k i b2).isSome
noncomputable def laws_FnExactSmoothWinds__markFloat32S_l2_a0_0 (an : Nat) (k : Int) (i : Int) (b2 : List Nat) : Int := ((L_laws_FnExactSmoothWinds__markFloat32S_l2 an big k i b2).getD default).1
noncomputable def laws_FnExactSmoothWinds__markFloat32S_l2_a0_1 (an : Nat) (k : Int) (i : Int) (b2 : List Nat) : Int := ((L_laws_FnExactSmoothWinds__markFloat32S_l2 an big k i b2).getD default).2.1
noncomputable def laws_FnExactSmoothWinds__markFloat32S_l2_a0_2 (an : Nat) (k : Int) (i : Int) (b2 : List Nat) : Bool := ((L_laws_FnExactSmoothWinds__markFloat32S_l2 an big k i b2).getD default).2.2.1
noncomputable def laws_FnExactSmoothWinds__markFloat32S_l2_a0_3 (an : Nat) (k : Int) (i : Int) (b2 : List Nat) : List Nat := ((L_laws_FnExactSmoothWinds__markFloat32S_l2 an big k i b2).getD default).2.2.2
theorem laws_FnExactSmoothWinds__markFloat32S_l2_of0 {an : Nat} {k : Int} {i : Int} {b2 : List Nat} {m : Nat} {r : Int × Int × Bool × (List Nat)} (hm : m = big) (h : L_laws_FnExactSmoothWinds__markFloat32S_l2 an m k i b2 = some r) : laws_FnExactSmoothWinds__markFloat32S_l2_p an k i b2 = true ∧ laws_FnExactSmoothWinds__markFloat32S_l2_a0_0 an k i b2 = r.1 ∧ laws_FnExactSmoothWinds__markFloat32S_l2_a0_1 an k i b2 = r.2.1 ∧ laws_FnExactSmoothWinds__markFloat32S_l2_a0_2 an k i b2 = r.2.2.1 ∧ laws_FnExactSmoothWinds__markFloat32S_l2_a0_3 an k i b2 = r.2.2.2 := by
  subst hm
  unfold laws_FnExactSmoothWinds__markFloat32S_l2_p laws_FnExactSmoothWinds__markFloat32S_l2_a0_0 laws_FnExactSmoothWinds__markFloat32S_l2_a0_1 laws_FnExactSmoothWinds__markFloat32S_l2_a0_2 laws_FnExactSmoothWinds__markFloat32S_l2_a0_3
  rw [h]
  exact ⟨rfl, rfl, rfl, rfl, rfl⟩
noncomputable def T_laws_FnExactSmoothWinds__markFloat32S_l2_2 {R : Type} (an : Nat) (k : Int) (i : Int) (b2 : List Nat) (kn_ : Int → Int → (List Nat) → Option R) (k0_ : Int → Int → Bool → (List Nat) → Option R) : Option R := (br (ltI i (Int.ofNat an)) (grd (okIx i an) (kn_ (addI IntKind.i64 k 1) (addI IntKind.i64 i 1) (sF b2 (ixO 0 i 1) (fOI FloatKind.f32 k)))) (k0_ k i (ltI i (Int.ofNat an)) b2))
theorem T_laws_FnExactSmoothWinds__markFloat32S_l2_2_nat {R R' : Type} (o : Option R → Option R') (h0 : o none = none) (an : Nat) (k : Int) (i : Int) (b2 : List Nat) (kn_ : Int → Int → (List Nat) → Option R) (k0_ : Int → Int → Bool → (List Nat) → Option R) : T_laws_FnExactSmoothWinds__markFloat32S_l2_2 an k i b2 (fun k' i' b2' => o (kn_ k' i' b2')) (fun c0_ c1_ c2_ c3_ => o (k0_ c0_ c1_ c2_ c3_)) = o (T_laws_FnExactSmoothWinds__markFloat32S_l2_2 an k i b2 kn_ k0_) := by
  unfold T_laws_FnExactSmoothWinds__markFloat32S_l2_2
  repeat (first | refine grd_out h0 ?_ | refine br_out ?_ ?_ | rfl | exact h0.symm)
noncomputable def L_laws_FnExactSmoothWinds__markFloat32S_l2_2 (an : Nat) : Nat → Int → Int → (List Nat) → Option ((Int × Int × Bool × (List Nat)))
  | 0, _, _, _ => none
  | n + 1, k, i, b2 => T_laws_FnExactSmoothWinds__markFloat32S_l2_2 an  k i b2  (fun k' i' b2' => L_laws_FnExactSmoothWinds__markFloat32S_l2_2 an n k' i' b2') (fun c0_ c1_ c2_ c3_ => some (c0_, c1_, c2_, c3_))
theorem L_laws_FnExactSmoothWinds__markFloat32S_l2_2_succ (an : Nat) (n : Nat) (k : Int) (i : Int) (b2 : List Nat) : L_laws_FnExactSmoothWinds__markFloat32S_l2_2 an (n + 1) k i b2 = T_laws_FnExactSmoothWinds__markFloat32S_l2_2 an  k i b2  (fun k' i' b2' => L_laws_FnExactSmoothWinds__markFloat32S_l2_2 an n k' i' b2') (fun c0_ c1_ c2_ c3_ => some (c0_, c1_, c2_, c3_)) := rfl
noncomputable def laws_FnExactSmoothWinds__markFloat32S_l2_2_p (an : Nat) (k : Int) (i : Int) (b2 : List Nat) : Bool := (L_laws_FnExactSmoothWinds__markFloat32S_l2_2 an big k i b2).isSome
noncomputable def laws_FnExactSmoothWinds__markFloat32S_l2_2_a0_0 (an : Nat) (k : Int) (i : Int) (b2 : List Nat) : Int := ((L_laws_FnExactSmoothWinds__markFloat32S_l2_2 an big k i b2).getD default).1
noncomputable def laws_FnExactSmoothWinds__markFloat32S_l2_2_a0_1 (an : Nat) (k : Int) (i : Int) (b2 : List Nat) : Int := ((L_laws_FnExactSmoothWinds__markFloat32S_l2_2 an big k i b2).getD default).2.1
noncomputable def laws_FnExactSmoothWinds__markFloat32S_l2_2_a0_2 (an : Nat) (k : Int) (i : Int) (b2 : List Nat) : Bool := ((L_laws_FnExactSmoothWinds__markFloat32S_l2_2 an big k i b2).getD default).2.2.1
noncomputable def laws_FnExactSmoothWinds__markFloat32S_l2_2_a0_3 (an : Nat) (k : Int) (i : Int) (b2 : List Nat) : List Nat := ((L_laws_FnExactSmoothWinds__markFloat32S_l2_2 an big k i b2).getD default).2.2.2
theorem laws_FnExactSmoothWinds__markFloat32S_l2_2_of0 {an : Nat} {k : Int} {i : Int} {b2 : List Nat} {m : Nat} {r : Int × Int × Bool × (List Nat)} (hm : m = big) (h : L_laws_FnExactSmoothWinds__markFloat32S_l2_2 an m k i b2 = some r) : laws_FnExactSmoothWinds__markFloat32S_l2_2_p an k i b2 = true ∧ laws_FnExactSmoothWinds__markFloat32S_l2_2_a0_0 an k i b2 = r.1 ∧ laws_FnExactSmoothWinds__markFloat32S_l2_2_a0_1 an k i b2 = r.2.1 ∧ laws_FnExactSmoothWinds__markFloat32S_l2_2_a0_2 an k i b2 = r.2.2.1 ∧ laws_FnExactSmoothWinds__markFloat32S_l2_2_a0_3 an k i b2 = r.2.2.2 := by
  subst hm
  unfold laws_FnExactSmoothWinds__markFloat32S_l2_2_p laws_FnExactSmoothWinds__markFloat32S_l2_2_a0_0 laws_FnExactSmoothWinds__markFloat32S_l2_2_a0_1 laws_FnExactSmoothWinds__markFloat32S_l2_2_a0_2 laws_FnExactSmoothWinds__markFloat32S_l2_2_a0_3
  rw [h]
  exact ⟨rfl, rfl, rfl, rfl, rfl⟩
noncomputable def T_laws_FnExactSmoothWinds {R : Type} (toArray_n : Nat) (toArray : List Nat) (x1 : Int) (k_ : Bool → Option R) : Option R := (br (ltI 1048576 (Int.ofNat toArray_n)) (k_ Bool.true) (grd (laws_toFloat32S_p toArray_n (pF toArray 0 (muN toArray_n 1))) (grd (spec_SmoothWinds_p (laws_toFloat32S_v0 toArray_n (pF toArray 0 (muN toArray_n 1))) (pF (laws_toFloat32S_v1 toArray_n (pF toArray 0 (muN toArray_n 1))) 0 (muN (laws_toFloat32S_v0 toArray_n (pF toArray 0 (muN toArray_n 1))) 1)) x1) (grd (laws_toFloat32S_p toArray_n (pF toArray 0 (muN toArray_n 1))) (grd (impl_SmoothWinds_p (laws_toFloat32S_v0 toArray_n (pF toArray 0 (muN toArray_n 1))) (pF (laws_toFloat32S_v1 toArray_n (pF toArray 0 (muN toArray_n 1))) 0 (muN (laws_toFloat32S_v0 toArray_n (pF toArray 0 (muN toArray_n 1))) 1)) x1) (grd (laws_eqFloat32S_p (impl_SmoothWinds_v0 (laws_toFloat32S_v0 toArray_n (pF toArray 0 (muN toArray_n 1))) (pF (laws_toFloat32S_v1 toArray_n (pF toArray 0 (muN toArray_n 1))) 0 (muN (laws_toFloat32S_v0 toArray_n (pF toArray 0 (muN toArray_n 1))) 1)) x1) (pF (impl_SmoothWinds_v2 (laws_toFloat32S_v0 toArray_n (pF toArray 0 (muN toArray_n 1))) (pF (laws_toFloat32S_v1 toArray_n (pF toArray 0 (muN toArray_n 1))) 0 (muN (laws_toFloat32S_v0 toArray_n (pF toArray 0 (muN toArray_n 1))) 1)) x1) 0 (muN (impl_SmoothWinds_v0 (laws_toFloat32S_v0 toArray_n (pF toArray 0 (muN toArray_n 1))) (pF (laws_toFloat32S_v1 toArray_n (pF toArray 0 (muN toArray_n 1))) 0 (muN (laws_toFloat32S_v0 toArray_n (pF toArray 0 (muN toArray_n 1))) 1)) x1) 1)) (spec_SmoothWinds_v0 (laws_toFloat32S_v0 toArray_n (pF toArray 0 (muN toArray_n 1))) (pF (laws_toFloat32S_v1 toArray_n (pF toArray 0 (muN toArray_n 1))) 0 (muN (laws_toFloat32S_v0 toArray_n (pF toArray 0 (muN toArray_n 1))) 1)) x1) (pF (spec_SmoothWinds_v2 (laws_toFloat32S_v0 toArray_n (pF toArray 0 (muN toArray_n 1))) (pF (laws_toFloat32S_v1 toArray_n (pF toArray 0 (muN toArray_n 1))) 0 (muN (laws_toFloat32S_v0 toArray_n (pF toArray 0 (muN toArray_n 1))) 1)) x1) 0 (muN (spec_SmoothWinds_v0 (laws_toFloat32S_v0 toArray_n (pF toArray 0 (muN toArray_n 1))) (pF (laws_toFloat32S_v1 toArray_n (pF toArray 0 (muN toArray_n 1))) 0 (muN (laws_toFloat32S_v0 toArray_n (pF toArray 0 (muN toArray_n 1))) 1)) x1) 1))) (br (bnot (laws_eqFloat32S_v0 (impl_SmoothWinds_v0 (laws_toFloat32S_v0 toArray_n (pF toArray 0 (muN toArray_n 1))) (pF (laws_toFloat32S_v1 toArray_n (pF toArray 0 (muN toArray_n 1))) 0 (muN (laws_toFloat32S_v0 toArray_n (pF toArray 0 (muN toArray_n 1))) 1)) x1) (pF (impl_SmoothWinds_v2 (laws_toFloat32S_v0 toArray_n (pF toArray 0 (muN toArray_n 1))) (pF (laws_toFloat32S_v1 toArray_n (pF toArray 0 (muN toArray_n 1))) 0 (muN (laws_toFloat32S_v0 toArray_n (pF toArray 0 (muN toArray_n 1))) 1)) x1) 0 (muN (impl_SmoothWinds_v0 (laws_toFloat32S_v0 toArray_n (pF toArray 0 (muN toArray_n 1))) (pF (laws_toFloat32S_v1 toArray_n (pF toArray 0 (muN toArray_n 1))) 0 (muN (laws_toFloat32S_v0 toArray_n (pF toArray 0 (muN toArray_n 1))) 1)) x1) 1)) (spec_SmoothWinds_v0 (laws_toFloat32S_v0 toArray_n (pF toArray 0 (muN toArray_n 1))) (pF (laws_toFloat32S_v1 toArray_n (pF toArray 0 (muN toArray_n 1))) 0 (muN (laws_toFloat32S_v0 toArray_n (pF toArray 0 (muN toArray_n 1))) 1)) x1) (pF (spec_SmoothWinds_v2 (laws_toFloat32S_v0 toArray_n (pF toArray 0 (muN toArray_n 1))) (pF (laws_toFloat32S_v1 toArray_n (pF toArray 0 (muN toArray_n 1))) 0 (muN (laws_toFloat32S_v0 toArray_n (pF toArray 0 (muN toArray_n 1))) 1)) x1) 0 (muN (spec_SmoothWinds_v0 (laws_toFloat32S_v0 toArray_n (pF toArray 0 (muN toArray_n 1))) (pF (laws_toFloat32S_v1 toArray_n (pF toArray 0 (muN toArray_n 1))) 0 (muN (laws_toFloat32S_v0 toArray_n (pF toArray 0 (muN toArray_n 1))) 1)) x1) 1)))) (k_ Bool.false) (br (bnot (beqB (impl_SmoothWinds_v1 (laws_toFloat32S_v0 toArray_n (pF toArray 0 (muN toArray_n 1))) (pF (laws_toFloat32S_v1 toArray_n (pF toArray 0 (muN toArray_n 1))) 0 (muN (laws_toFloat32S_v0 toArray_n (pF toArray 0 (muN toArray_n 1))) 1)) x1) (spec_SmoothWinds_v1 (laws_toFloat32S_v0 toArray_n (pF toArray 0 (muN toArray_n 1))) (pF (laws_toFloat32S_v1 toArray_n (pF toArray 0 (muN toArray_n 1))) 0 (muN (laws_toFloat32S_v0 toArray_n (pF toArray 0 (muN toArray_n 1))) 1)) x1))) (k_ Bool.false) (grd (laws_toFloat32S_p toArray_n (pF toArray 0 (muN toArray_n 1))) (grd (laws_eqFloat32S_p (laws_toFloat32S_v0 toArray_n (pF toArray 0 (muN toArray_n 1))) (pF (laws_toFloat32S_v1 toArray_n (pF toArray 0 (muN toArray_n 1))) 0 (muN (laws_toFloat32S_v0 toArray_n (pF toArray 0 (muN toArray_n 1))) 1)) (laws_toFloat32S_v0 toArray_n (pF toArray 0 (muN toArray_n 1))) (pF (laws_toFloat32S_v1 toArray_n (pF toArray 0 (muN toArray_n 1))) 0 (muN (laws_toFloat32S_v0 toArray_n (pF toArray 0 (muN toArray_n 1))) 1))) (br (bnot (laws_eqFloat32S_v0 (laws_toFloat32S_v0 toArray_n (pF toArray 0 (muN toArray_n 1))) (pF (laws_toFloat32S_v1 toArray_n (pF toArray 0 (muN toArray_n 1))) 0 (muN (laws_toFloat32S_v0 toArray_n (pF toArray 0 (muN toArray_n 1))) 1)) (laws_toFloat32S_v0 toArray_n (pF toArray 0 (muN toArray_n 1))) (pF (laws_toFloat32S_v1 toArray_n (pF toArray 0 (muN toArray_n 1))) 0 (muN (laws_toFloat32S_v0 toArray_n (pF toArray 0 (muN toArray_n 1))) 1)))) (k_ Bool.false) (grd (laws_FnExactSmoothWinds__markFloat32S_l2_p (laws_toFloat32S_v0 toArray_n (pF toArray 0 (muN toArray_n 1))) 1 0 (laws_toFloat32S_v1 toArray_n (pF toArray 0 (muN toArray_n 1)))) (br (ltI (laws_FnExactSmoothWinds__markFloat32S_l2_a0_0 (laws_toFloat32S_v0 toArray_n (pF toArray 0 (muN toArray_n 1))) 1 0 (laws_toFloat32S_v1 toArray_n (pF toArray 0 (muN toArray_n 1)))) 0) (k_ Bool.false) (grd (laws_eqFloat32S_p (impl_SmoothWinds_v0 (laws_toFloat32S_v0 toArray_n (pF toArray 0 (muN toArray_n 1))) (pF (laws_toFloat32S_v1 toArray_n (pF toArray 0 (muN toArray_n 1))) 0 (muN (laws_toFloat32S_v0 toArray_n (pF toArray 0 (muN toArray_n 1))) 1)) x1) (pF (impl_SmoothWinds_v2 (laws_toFloat32S_v0 toArray_n (pF toArray 0 (muN toArray_n 1))) (pF (laws_toFloat32S_v1 toArray_n (pF toArray 0 (muN toArray_n 1))) 0 (muN (laws_toFloat32S_v0 toArray_n (pF toArray 0 (muN toArray_n 1))) 1)) x1) 0 (muN (impl_SmoothWinds_v0 (laws_toFloat32S_v0 toArray_n (pF toArray 0 (muN toArray_n 1))) (pF (laws_toFloat32S_v1 toArray_n (pF toArray 0 (muN toArray_n 1))) 0 (muN (laws_toFloat32S_v0 toArray_n (pF toArray 0 (muN toArray_n 1))) 1)) x1) 1)) (spec_SmoothWinds_v0 (laws_toFloat32S_v0 toArray_n (pF toArray 0 (muN toArray_n 1))) (pF (laws_toFloat32S_v1 toArray_n (pF toArray 0 (muN toArray_n 1))) 0 (muN (laws_toFloat32S_v0 toArray_n (pF toArray 0 (muN toArray_n 1))) 1)) x1) (pF (spec_SmoothWinds_v2 (laws_toFloat32S_v0 toArray_n (pF toArray 0 (muN toArray_n 1))) (pF (laws_toFloat32S_v1 toArray_n (pF toArray 0 (muN toArray_n 1))) 0 (muN (laws_toFloat32S_v0 toArray_n (pF toArray 0 (muN toArray_n 1))) 1)) x1) 0 (muN (spec_SmoothWinds_v0 (laws_toFloat32S_v0 toArray_n (pF toArray 0 (muN toArray_n 1))) (pF (laws_toFloat32S_v1 toArray_n (pF toArray 0 (muN toArray_n 1))) 0 (muN (laws_toFloat32S_v0 toArray_n (pF toArray 0 (muN toArray_n 1))) 1)) x1) 1))) (br (bnot (laws_eqFloat32S_v0 (impl_SmoothWinds_v0 (laws_toFloat32S_v0 toArray_n (pF toArray 0 (muN toArray_n 1))) (pF (laws_toFloat32S_v1 toArray_n (pF toArray 0 (muN toArray_n 1))) 0 (muN (laws_toFloat32S_v0 toArray_n (pF toArray 0 (muN toArray_n 1))) 1)) x1) (pF (impl_SmoothWinds_v2 (laws_toFloat32S_v0 toArray_n (pF toArray 0 (muN toArray_n 1))) (pF (laws_toFloat32S_v1 toArray_n (pF toArray 0 (muN toArray_n 1))) 0 (muN (laws_toFloat32S_v0 toArray_n (pF toArray 0 (muN toArray_n 1))) 1)) x1) 0 (muN (impl_SmoothWinds_v0 (laws_toFloat32S_v0 toArray_n (pF toArray 0 (muN toArray_n 1))) (pF (laws_toFloat32S_v1 toArray_n (pF toArray 0 (muN toArray_n 1))) 0 (muN (laws_toFloat32S_v0 toArray_n (pF toArray 0 (muN toArray_n 1))) 1)) x1) 1)) (spec_SmoothWinds_v0 (laws_toFloat32S_v0 toArray_n (pF toArray 0 (muN toArray_n 1))) (pF (laws_toFloat32S_v1 toArray_n (pF toArray 0 (muN toArray_n 1))) 0 (muN (laws_toFloat32S_v0 toArray_n (pF toArray 0 (muN toArray_n 1))) 1)) x1) (pF (spec_SmoothWinds_v2 (laws_toFloat32S_v0 toArray_n (pF toArray 0 (muN toArray_n 1))) (pF (laws_toFloat32S_v1 toArray_n (pF toArray 0 (muN toArray_n 1))) 0 (muN (laws_toFloat32S_v0 toArray_n (pF toArray 0 (muN toArray_n 1))) 1)) x1) 0 (muN (spec_SmoothWinds_v0 (laws_toFloat32S_v0 toArray_n (pF toArray 0 (muN toArray_n 1))) (pF (laws_toFloat32S_v1 toArray_n (pF toArray 0 (muN toArray_n 1))) 0 (muN (laws_toFloat32S_v0 toArray_n (pF toArray 0 (muN toArray_n 1))) 1)) x1) 1)))) (k_ Bool.false) (br (bnot (beqB (impl_SmoothWinds_v1 (laws_toFloat32S_v0 toArray_n (pF toArray 0 (muN toArray_n 1))) (pF (laws_toFloat32S_v1 toArray_n (pF toArray 0 (muN toArray_n 1))) 0 (muN (laws_toFloat32S_v0 toArray_n (pF toArray 0 (muN toArray_n 1))) 1)) x1) (spec_SmoothWinds_v1 (laws_toFloat32S_v0 toArray_n (pF toArray 0 (muN toArray_n 1))) (pF (laws_toFloat32S_v1 toArray_n (pF toArray 0 (muN toArray_n 1))) 0 (muN (laws_toFloat32S_v0 toArray_n (pF toArray 0 (muN toArray_n 1))) 1)) x1))) (k_ Bool.false) (grd (laws_FnExactSmoothWinds__markFloat32S_l2_2_p (impl_SmoothWinds_v0 (laws_toFloat32S_v0 toArray_n (pF toArray 0 (muN toArray_n 1))) (pF (laws_toFloat32S_v1 toArray_n (pF toArray 0 (muN toArray_n 1))) 0 (muN (laws_toFloat32S_v0 toArray_n (pF toArray 0 (muN toArray_n 1))) 1)) x1) 1 0 (impl_SmoothWinds_v2 (laws_toFloat32S_v0 toArray_n (pF toArray 0 (muN toArray_n 1))) (pF (laws_toFloat32S_v1 toArray_n (pF toArray 0 (muN toArray_n 1))) 0 (muN (laws_toFloat32S_v0 toArray_n (pF toArray 0 (muN toArray_n 1))) 1)) x1)) (grd (laws_heldFloat32S_p (impl_SmoothWinds_v0 (laws_toFloat32S_v0 toArray_n (pF toArray 0 (muN toArray_n 1))) (pF (laws_toFloat32S_v1 toArray_n (pF toArray 0 (muN toArray_n 1))) 0 (muN (laws_toFloat32S_v0 toArray_n (pF toArray 0 (muN toArray_n 1))) 1)) x1) (pF (laws_FnExactSmoothWinds__markFloat32S_l2_2_a0_3 (impl_SmoothWinds_v0 (laws_toFloat32S_v0 toArray_n (pF toArray 0 (muN toArray_n 1))) (pF (laws_toFloat32S_v1 toArray_n (pF toArray 0 (muN toArray_n 1))) 0 (muN (laws_toFloat32S_v0 toArray_n (pF toArray 0 (muN toArray_n 1))) 1)) x1) 1 0 (impl_SmoothWinds_v2 (laws_toFloat32S_v0 toArray_n (pF toArray 0 (muN toArray_n 1))) (pF (laws_toFloat32S_v1 toArray_n (pF toArray 0 (muN toArray_n 1))) 0 (muN (laws_toFloat32S_v0 toArray_n (pF toArray 0 (muN toArray_n 1))) 1)) x1)) 0 (muN (impl_SmoothWinds_v0 (laws_toFloat32S_v0 toArray_n (pF toArray 0 (muN toArray_n 1))) (pF (laws_toFloat32S_v1 toArray_n (pF toArray 0 (muN toArray_n 1))) 0 (muN (laws_toFloat32S_v0 toArray_n (pF toArray 0 (muN toArray_n 1))) 1)) x1) 1)) 1) (br (ltI (laws_heldFloat32S_v0 (impl_SmoothWinds_v0 (laws_toFloat32S_v0 toArray_n (pF toArray 0 (muN toArray_n 1))) (pF (laws_toFloat32S_v1 toArray_n (pF toArray 0 (muN toArray_n 1))) 0 (muN (laws_toFloat32S_v0 toArray_n (pF toArray 0 (muN toArray_n 1))) 1)) x1) (pF (laws_FnExactSmoothWinds__markFloat32S_l2_2_a0_3 (impl_SmoothWinds_v0 (laws_toFloat32S_v0 toArray_n (pF toArray 0 (muN toArray_n 1))) (pF (laws_toFloat32S_v1 toArray_n (pF toArray 0 (muN toArray_n 1))) 0 (muN (laws_toFloat32S_v0 toArray_n (pF toArray 0 (muN toArray_n 1))) 1)) x1) 1 0 (impl_SmoothWinds_v2 (laws_toFloat32S_v0 toArray_n (pF toArray 0 (muN toArray_n 1))) (pF (laws_toFloat32S_v1 toArray_n (pF toArray 0 (muN toArray_n 1))) 0 (muN (laws_toFloat32S_v0 toArray_n (pF toArray 0 (muN toArray_n 1))) 1)) x1)) 0 (muN (impl_SmoothWinds_v0 (laws_toFloat32S_v0 toArray_n (pF toArray 0 (muN toArray_n 1))) (pF (laws_toFloat32S_v1 toArray_n (pF toArray 0 (muN toArray_n 1))) 0 (muN (laws_toFloat32S_v0 toArray_n (pF toArray 0 (muN toArray_n 1))) 1)) x1) 1)) 1) 0) (k_ Bool.false) (br (neI (laws_heldFloat32S_v0 (impl_SmoothWinds_v0 (laws_toFloat32S_v0 toArray_n (pF toArray 0 (muN toArray_n 1))) (pF (laws_toFloat32S_v1 toArray_n (pF toArray 0 (muN toArray_n 1))) 0 (muN (laws_toFloat32S_v0 toArray_n (pF toArray 0 (muN toArray_n 1))) 1)) x1) (pF (laws_FnExactSmoothWinds__markFloat32S_l2_2_a0_3 (impl_SmoothWinds_v0 (laws_toFloat32S_v0 toArray_n (pF toArray 0 (muN toArray_n 1))) (pF (laws_toFloat32S_v1 toArray_n (pF toArray 0 (muN toArray_n 1))) 0 (muN (laws_toFloat32S_v0 toArray_n (pF toArray 0 (muN toArray_n 1))) 1)) x1) 1 0 (impl_SmoothWinds_v2 (laws_toFloat32S_v0 toArray_n (pF toArray 0 (muN toArray_n 1))) (pF (laws_toFloat32S_v1 toArray_n (pF toArray 0 (muN toArray_n 1))) 0 (muN (laws_toFloat32S_v0 toArray_n (pF toArray 0 (muN toArray_n 1))) 1)) x1)) 0 (muN (impl_SmoothWinds_v0 (laws_toFloat32S_v0 toArray_n (pF toArray 0 (muN toArray_n 1))) (pF (laws_toFloat32S_v1 toArray_n (pF toArray 0 (muN toArray_n 1))) 0 (muN (laws_toFloat32S_v0 toArray_n (pF toArray 0 (muN toArray_n 1))) 1)) x1) 1)) 1) (laws_FnExactSmoothWinds__markFloat32S_l2_2_a0_0 (impl_SmoothWinds_v0 (laws_toFloat32S_v0 toArray_n (pF toArray 0 (muN toArray_n 1))) (pF (laws_toFloat32S_v1 toArray_n (pF toArray 0 (muN toArray_n 1))) 0 (muN (laws_toFloat32S_v0 toArray_n (pF toArray 0 (muN toArray_n 1))) 1)) x1) 1 0 (impl_SmoothWinds_v2 (laws_toFloat32S_v0 toArray_n (pF toArray 0 (muN toArray_n 1))) (pF (laws_toFloat32S_v1 toArray_n (pF toArray 0 (muN toArray_n 1))) 0 (muN (laws_toFloat32S_v0 toArray_n (pF toArray 0 (muN toArray_n 1))) 1)) x1))) (k_ Bool.false) (grd (laws_toFloat32S_p toArray_n (pF toArray 0 (muN toArray_n 1))) (grd (impl_SmoothWinds_p (laws_toFloat32S_v0 toArray_n (pF toArray 0 (muN toArray_n 1))) (pF (laws_toFloat32S_v1 toArray_n (pF toArray 0 (muN toArray_n 1))) 0 (muN (laws_toFloat32S_v0 toArray_n (pF toArray 0 (muN toArray_n 1))) 1)) x1) (grd (laws_eqFloat32S_p (impl_SmoothWinds_v0 (laws_toFloat32S_v0 toArray_n (pF toArray 0 (muN toArray_n 1))) (pF (laws_toFloat32S_v1 toArray_n (pF toArray 0 (muN toArray_n 1))) 0 (muN (laws_toFloat32S_v0 toArray_n (pF toArray 0 (muN toArray_n 1))) 1)) x1) (pF (impl_SmoothWinds_v2 (laws_toFloat32S_v0 toArray_n (pF toArray 0 (muN toArray_n 1))) (pF (laws_toFloat32S_v1 toArray_n (pF toArray 0 (muN toArray_n 1))) 0 (muN (laws_toFloat32S_v0 toArray_n (pF toArray 0 (muN toArray_n 1))) 1)) x1) 0 (muN (impl_SmoothWinds_v0 (laws_toFloat32S_v0 toArray_n (pF toArray 0 (muN toArray_n 1))) (pF (laws_toFloat32S_v1 toArray_n (pF toArray 0 (muN toArray_n 1))) 0 (muN (laws_toFloat32S_v0 toArray_n (pF toArray 0 (muN toArray_n 1))) 1)) x1) 1)) (spec_SmoothWinds_v0 (laws_toFloat32S_v0 toArray_n (pF toArray 0 (muN toArray_n 1))) (pF (laws_toFloat32S_v1 toArray_n (pF toArray 0 (muN toArray_n 1))) 0 (muN (laws_toFloat32S_v0 toArray_n (pF toArray 0 (muN toArray_n 1))) 1)) x1) (pF (spec_SmoothWinds_v2 (laws_toFloat32S_v0 toArray_n (pF toArray 0 (muN toArray_n 1))) (pF (laws_toFloat32S_v1 toArray_n (pF toArray 0 (muN toArray_n 1))) 0 (muN (laws_toFloat32S_v0 toArray_n (pF toArray 0 (muN toArray_n 1))) 1)) x1) 0 (muN (spec_SmoothWinds_v0 (laws_toFloat32S_v0 toArray_n (pF toArray 0 (muN toArray_n 1))) (pF (laws_toFloat32S_v1 toArray_n (pF toArray 0 (muN toArray_n 1))) 0 (muN (laws_toFloat32S_v0 toArray_n (pF toArray 0 (muN toArray_n 1))) 1)) x1) 1))) (br (bnot (laws_eqFloat32S_v0 (impl_SmoothWinds_v0 (laws_toFloat32S_v0 toArray_n (pF toArray 0 (muN toArray_n 1))) (pF (laws_toFloat32S_v1 toArray_n (pF toArray 0 (muN toArray_n 1))) 0 (muN (laws_toFloat32S_v0 toArray_n (pF toArray 0 (muN toArray_n 1))) 1)) x1) (pF (impl_SmoothWinds_v2 (laws_toFloat32S_v0 toArray_n (pF toArray 0 (muN toArray_n 1))) (pF (laws_toFloat32S_v1 toArray_n (pF toArray 0 (muN toArray_n 1))) 0 (muN (laws_toFloat32S_v0 toArray_n (pF toArray 0 (muN toArray_n 1))) 1)) x1) 0 (muN (impl_SmoothWinds_v0 (laws_toFloat32S_v0 toArray_n (pF toArray 0 (muN toArray_n 1))) (pF (laws_toFloat32S_v1 toArray_n (pF toArray 0 (muN toArray_n 1))) 0 (muN (laws_toFloat32S_v0 toArray_n (pF toArray 0 (muN toArray_n 1))) 1)) x1) 1)) (spec_SmoothWinds_v0 (laws_toFloat32S_v0 toArray_n (pF toArray 0 (muN toArray_n 1))) (pF (laws_toFloat32S_v1 toArray_n (pF toArray 0 (muN toArray_n 1))) 0 (muN (laws_toFloat32S_v0 toArray_n (pF toArray 0 (muN toArray_n 1))) 1)) x1) (pF (spec_SmoothWinds_v2 (laws_toFloat32S_v0 toArray_n (pF toArray 0 (muN toArray_n 1))) (pF (laws_toFloat32S_v1 toArray_n (pF toArray 0 (muN toArray_n 1))) 0 (muN (laws_toFloat32S_v0 toArray_n (pF toArray 0 (muN toArray_n 1))) 1)) x1) 0 (muN (spec_SmoothWinds_v0 (laws_toFloat32S_v0 toArray_n (pF toArray 0 (muN toArray_n 1))) (pF (laws_toFloat32S_v1 toArray_n (pF toArray 0 (muN toArray_n 1))) 0 (muN (laws_toFloat32S_v0 toArray_n (pF toArray 0 (muN toArray_n 1))) 1)) x1) 1)))) (k_ Bool.false) (br (bnot (beqB (impl_SmoothWinds_v1 (laws_toFloat32S_v0 toArray_n (pF toArray 0 (muN toArray_n 1))) (pF (laws_toFloat32S_v1 toArray_n (pF toArray 0 (muN toArray_n 1))) 0 (muN (laws_toFloat32S_v0 toArray_n (pF toArray 0 (muN toArray_n 1))) 1)) x1) (spec_SmoothWinds_v1 (laws_toFloat32S_v0 toArray_n (pF toArray 0 (muN toArray_n 1))) (pF (laws_toFloat32S_v1 toArray_n (pF toArray 0 (muN toArray_n 1))) 0 (muN (laws_toFloat32S_v0 toArray_n (pF toArray 0 (muN toArray_n 1))) 1)) x1))) (k_ Bool.false) (grd (laws_heldFloat32S_p (impl_SmoothWinds_v0 (laws_toFloat32S_v0 toArray_n (pF toArray 0 (muN toArray_n 1))) (pF (laws_toFloat32S_v1 toArray_n (pF toArray 0 (muN toArray_n 1))) 0 (muN (laws_toFloat32S_v0 toArray_n (pF toArray 0 (muN toArray_n 1))) 1)) x1) (pF (laws_FnExactSmoothWinds__markFloat32S_l2_2_a0_3 (impl_SmoothWinds_v0 (laws_toFloat32S_v0 toArray_n (pF toArray 0 (muN toArray_n 1))) (pF (laws_toFloat32S_v1 toArray_n (pF toArray 0 (muN toArray_n 1))) 0 (muN (laws_toFloat32S_v0 toArray_n (pF toArray 0 (muN toArray_n 1))) 1)) x1) 1 0 (impl_SmoothWinds_v2 (laws_toFloat32S_v0 toArray_n (pF toArray 0 (muN toArray_n 1))) (pF (laws_toFloat32S_v1 toArray_n (pF toArray 0 (muN toArray_n 1))) 0 (muN (laws_toFloat32S_v0 toArray_n (pF toArray 0 (muN toArray_n 1))) 1)) x1)) 0 (muN (impl_SmoothWinds_v0 (laws_toFloat32S_v0 toArray_n (pF toArray 0 (muN toArray_n 1))) (pF (laws_toFloat32S_v1 toArray_n (pF toArray 0 (muN toArray_n 1))) 0 (muN (laws_toFloat32S_v0 toArray_n (pF toArray 0 (muN toArray_n 1))) 1)) x1) 1)) 1) (br (ltI (laws_heldFloat32S_v0 (impl_SmoothWinds_v0 (laws_toFloat32S_v0 toArray_n (pF toArray 0 (muN toArray_n 1))) (pF (laws_toFloat32S_v1 toArray_n (pF toArray 0 (muN toArray_n 1))) 0 (muN (laws_toFloat32S_v0 toArray_n (pF toArray 0 (muN toArray_n 1))) 1)) x1) (pF (laws_FnExactSmoothWinds__markFloat32S_l2_2_a0_3 (impl_SmoothWinds_v0 (laws_toFloat32S_v0 toArray_n (pF toArray 0 (muN toArray_n 1))) (pF (laws_toFloat32S_v1 toArray_n (pF toArray 0 (muN toArray_n 1))) 0 (muN (laws_toFloat32S_v0 toArray_n (pF toArray 0 (muN toArray_n 1))) 1)) x1) 1 0 (impl_SmoothWinds_v2 (laws_toFloat32S_v0 toArray_n (pF toArray 0 (muN toArray_n 1))) (pF (laws_toFloat32S_v1 toArray_n (pF toArray 0 (muN toArray_n 1))) 0 (muN (laws_toFloat32S_v0 toArray_n (pF toArray 0 (muN toArray_n 1))) 1)) x1)) 0 (muN (impl_SmoothWinds_v0 (laws_toFloat32S_v0 toArray_n (pF toArray 0 (muN toArray_n 1))) (pF (laws_toFloat32S_v1 toArray_n (pF toArray 0 (muN toArray_n 1))) 0 (muN (laws_toFloat32S_v0 toArray_n (pF toArray 0 (muN toArray_n 1))) 1)) x1) 1)) 1) 0) (k_ Bool.false) (br (neI (laws_heldFloat32S_v0 (impl_SmoothWinds_v0 (laws_toFloat32S_v0 toArray_n (pF toArray 0 (muN toArray_n 1))) (pF (laws_toFloat32S_v1 toArray_n (pF toArray 0 (muN toArray_n 1))) 0 (muN (laws_toFloat32S_v0 toArray_n (pF toArray 0 (muN toArray_n 1))) 1)) x1) (pF (laws_FnExactSmoothWinds__markFloat32S_l2_2_a0_3 (impl_SmoothWinds_v0 (laws_toFloat32S_v0 toArray_n (pF toArray 0 (muN toArray_n 1))) (pF (laws_toFloat32S_v1 toArray_n (pF toArray 0 (muN toArray_n 1))) 0 (muN (laws_toFloat32S_v0 toArray_n (pF toArray 0 (muN toArray_n 1))) 1)) x1) 1 0 (impl_SmoothWinds_v2 (laws_toFloat32S_v0 toArray_n (pF toArray 0 (muN toArray_n 1))) (pF (laws_toFloat32S_v1 toArray_n (pF toArray 0 (muN toArray_n 1))) 0 (muN (laws_toFloat32S_v0 toArray_n (pF toArray 0 (muN toArray_n 1))) 1)) x1)) 0 (muN (impl_SmoothWinds_v0 (laws_toFloat32S_v0 toArray_n (pF toArray 0 (muN toArray_n 1))) (pF (laws_toFloat32S_v1 toArray_n (pF toArray 0 (muN toArray_n 1))) 0 (muN (laws_toFloat32S_v0 toArray_n (pF toArray 0 (muN toArray_n 1))) 1)) x1) 1)) 1) (laws_FnExactSmoothWinds__markFloat32S_l2_2_a0_0 (impl_SmoothWinds_v0 (laws_toFloat32S_v0 toArray_n (pF toArray 0 (muN toArray_n 1))) (pF (laws_toFloat32S_v1 toArray_n (pF toArray 0 (muN toArray_n 1))) 0 (muN (laws_toFloat32S_v0 toArray_n (pF toArray 0 (muN toArray_n 1))) 1)) x1) 1 0 (impl_SmoothWinds_v2 (laws_toFloat32S_v0 toArray_n (pF toArray 0 (muN toArray_n 1))) (pF (laws_toFloat32S_v1 toArray_n (pF toArray 0 (muN toArray_n 1))) 0 (muN (laws_toFloat32S_v0 toArray_n (pF toArray 0 (muN toArray_n 1))) 1)) x1))) (k_ Bool.false) (k_ Bool.true)))))))))))))))))))))))))))))
noncomputable def F_laws_FnExactSmoothWinds (toArray_n : Nat) (toArray : List Nat) (x1 : Int) : Option (Bool) := T_laws_FnExactSmoothWinds toArray_n toArray x1 (fun c0_ => some c0_)
theorem T_laws_FnExactSmoothWinds_nat {R R' : Type} (o : Option R → Option R') (h0 : o none = none) (toArray_n : Nat) (toArray : List Nat) (x1 : Int) (k_ : Bool → Option R) : T_laws_FnExactSmoothWinds toArray_n toArray x1 (fun c0_ => o (k_ c0_)) = o (T_laws_FnExactSmoothWinds toArray_n toArray x1 k_) := by
  unfold T_laws_FnExactSmoothWinds
  repeat (first | refine grd_out h0 ?_ | refine br_out ?_ ?_ | rfl | exact h0.symm)
noncomputable def laws_FnExactSmoothWinds_p (toArray_n : Nat) (toArray : List Nat) (x1 : Int) : Bool := (F_laws_FnExactSmoothWinds toArray_n toArray x1).isSome
noncomputable def laws_FnExactSmoothWinds_v0 (toArray_n : Nat) (toArray : List Nat) (x1 : Int) : Bool := ((F_laws_FnExactSmoothWinds toArray_n toArray x1).getD default)
theorem laws_FnExactSmoothWinds_of {toArray_n : Nat} {toArray : List Nat} {x1 : Int} {r : Bool} (h : F_laws_FnExactSmoothWinds toArray_n toArray x1 = some r) : laws_FnExactSmoothWinds_p toArray_n toArray x1 = true ∧ laws_FnExactSmoothWinds_v0 toArray_n toArray x1 = r := by
  unfold laws_FnExactSmoothWinds_p laws_FnExactSmoothWinds_v0
  rw [h]
  exact ⟨rfl, rfl⟩
end Go.Rf
