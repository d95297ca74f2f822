import Derived.Test.YtdmbbllcgpicbaaB
set_option linter.unusedVariables false
set_option linter.unusedSimpArgs false
set_option maxRecDepth 100000
set_option maxHeartbeats 4000000
namespace Go.Rf
open Go
noncomputable def T_laws_toAir {R : Type} (a_Density : Nat) (a_Height : Nat) (a_Speed : Nat) (a_Shear : Nat) (k_ : Unit → Option R) : Option R := (k_ ())
noncomputable def F_laws_toAir (a_Density : Nat) (a_Height : Nat) (a_Speed : Nat) (a_Shear : Nat) : Option (Unit) := T_laws_toAir a_Density a_Height a_Speed a_Shear (fun _ => some ())
theorem T_laws_toAir_nat {R R' : Type} (o : Option R → Option R') (h0 : o none = none) (a_Density : Nat) (a_Height : Nat) (a_Speed : Nat) (a_Shear : Nat) (k_ : Unit → Option R) : T_laws_toAir a_Density a_Height a_Speed a_Shear (fun _ => o (k_ ())) = o (T_laws_toAir a_Density a_Height a_Speed a_Shear k_) := by
  unfold T_laws_toAir
  repeat (first | refine grd_out h0 ?_ | refine br_out ?_ ?_ | rfl | exact h0.symm)
noncomputable def laws_toAir_p (a_Density : Nat) (a_Height : Nat) (a_Speed : Nat) (a_Shear : Nat) : Bool := (F_laws_toAir a_Density a_Height a_Speed a_Shear).isSome
noncomputable def T_laws_sameFloat {R : Type} (a : Nat) (b : Nat) (k_ : Bool → Option R) : Option R := (br (fcmp BinOp.neq FloatKind.f64 a a) (br (fcmp BinOp.neq FloatKind.f64 a a) (k_ (fcmp BinOp.neq FloatKind.f64 b b)) (k_ Bool.false)) (br (fcmp BinOp.neq FloatKind.f64 b b) (br (fcmp BinOp.neq FloatKind.f64 a a) (k_ (fcmp BinOp.neq FloatKind.f64 b b)) (k_ Bool.false)) (br (fcmp BinOp.eql FloatKind.f64 a 0) (br (fcmp BinOp.eql FloatKind.f64 b 0) (k_ (beqB (fcmp BinOp.gtr FloatKind.f64 (fop BinOp.quo FloatKind.f64 4607182418800017408 a) 0) (fcmp BinOp.gtr FloatKind.f64 (fop BinOp.quo FloatKind.f64 4607182418800017408 b) 0))) (k_ (fcmp BinOp.eql FloatKind.f64 a b))) (k_ (fcmp BinOp.eql FloatKind.f64 a b)))))
noncomputable def F_laws_sameFloat (a : Nat) (b : Nat) : Option (Bool) := T_laws_sameFloat a b (fun c0_ => some c0_)
theorem T_laws_sameFloat_nat {R R' : Type} (o : Option R → Option R') (h0 : o none = none) (a : Nat) (b : Nat) (k_ : Bool → Option R) : T_laws_sameFloat a b (fun c0_ => o (k_ c0_)) = o (T_laws_sameFloat a b k_) := by
  unfold T_laws_sameFloat
  repeat (first | refine grd_out h0 ?_ | refine br_out ?_ ?_ | rfl | exact h0.symm)
noncomputable def laws_sameFloat_p (a : Nat) (b : Nat) : Bool := (F_laws_sameFloat a b).isSome
noncomputable def laws_sameFloat_v0 (a : Nat) (b : Nat) : Bool := ((F_laws_sameFloat a b).getD default)
theorem laws_sameFloat_of {a : Nat} {b : Nat} {r : Bool} (h : F_laws_sameFloat a b = some r) : laws_sameFloat_p a b = true ∧ laws_sameFloat_v0 a b = r := by
  unfold laws_sameFloat_p laws_sameFloat_v0
  rw [h]
  exact ⟨rfl, rfl⟩
noncomputable def T_spec_l00In {R : Type} (n_ : Int) (low : Int) (high : Int) (k_ : Bool → Option R) : Option R := (br (leI low n_) (k_ (leI n_ high)) (k_ Bool.false))
noncomputable def F_spec_l00In (n_ : Int) (low : Int) (high : Int) : Option (Bool) := T_spec_l00In n_ low high (fun c0_ => some c0_)
theorem T_spec_l00In_nat {R R' : Type} (o : Option R → Option R') (h0 : o none = none) (n_ : Int) (low : Int) (high : Int) (k_ : Bool → Option R) : T_spec_l00In n_ low high (fun c0_ => o (k_ c0_)) = o (T_spec_l00In n_ low high k_) := by
  unfold T_spec_l00In
  repeat (first | refine grd_out h0 ?_ | refine br_out ?_ ?_ | rfl | exact h0.symm)
noncomputable def spec_l00In_p (n_ : Int) (low : Int) (high : Int) : Bool := (F_spec_l00In n_ low high).isSome
noncomputable def spec_l00In_v0 (n_ : Int) (low : Int) (high : Int) : Bool := ((F_spec_l00In n_ low high).getD default)
theorem spec_l00In_of {n_ : Int} {low : Int} {high : Int} {r : Bool} (h : F_spec_l00In n_ low high = some r) : spec_l00In_p n_ low high = true ∧ spec_l00In_v0 n_ low high = r := by
  unfold spec_l00In_p spec_l00In_v0
  rw [h]
  exact ⟨rfl, rfl⟩
noncomputable def T_spec_l04Share {R : Type} (x : Nat) (k_ : Bool → Option R) : Option R := (br (fcmp BinOp.geq FloatKind.f32 x 0) (k_ (fcmp BinOp.leq FloatKind.f32 x 1065353216)) (k_ Bool.false))
noncomputable def F_spec_l04Share (x : Nat) : Option (Bool) := T_spec_l04Share x (fun c0_ => some c0_)
theorem T_spec_l04Share_nat {R R' : Type} (o : Option R → Option R') (h0 : o none = none) (x : Nat) (k_ : Bool → Option R) : T_spec_l04Share x (fun c0_ => o (k_ c0_)) = o (T_spec_l04Share x k_) := by
  unfold T_spec_l04Share
  repeat (first | refine grd_out h0 ?_ | refine br_out ?_ ?_ | rfl | exact h0.symm)
noncomputable def spec_l04Share_p (x : Nat) : Bool := (F_spec_l04Share x).isSome
noncomputable def spec_l04Share_v0 (x : Nat) : Bool := ((F_spec_l04Share x).getD default)
theorem spec_l04Share_of {x : Nat} {r : Bool} (h : F_spec_l04Share x = some r) : spec_l04Share_p x = true ∧ spec_l04Share_v0 x = r := by
  unfold spec_l04Share_p spec_l04Share_v0
  rw [h]
  exact ⟨rfl, rfl⟩
noncomputable def T_spec_l04Speed {R : Type} (a_Density : Nat) (a_Height : Nat) (a_Speed : Nat) (a_Shear : Nat) (z : Nat) (k_ : Nat → Option R) : Option R := (k_ (fop BinOp.mul FloatKind.f32 a_Speed (fop BinOp.add FloatKind.f32 1065353216 (fop BinOp.mul FloatKind.f32 a_Shear (fop BinOp.quo FloatKind.f32 (fop BinOp.sub FloatKind.f32 z a_Height) (fop BinOp.add FloatKind.f32 z a_Height))))))
noncomputable def F_spec_l04Speed (a_Density : Nat) (a_Height : Nat) (a_Speed : Nat) (a_Shear : Nat) (z : Nat) : Option (Nat) := T_spec_l04Speed a_Density a_Height a_Speed a_Shear z (fun c0_ => some c0_)
theorem T_spec_l04Speed_nat {R R' : Type} (o : Option R → Option R') (h0 : o none = none) (a_Density : Nat) (a_Height : Nat) (a_Speed : Nat) (a_Shear : Nat) (z : Nat) (k_ : Nat → Option R) : T_spec_l04Speed a_Density a_Height a_Speed a_Shear z (fun c0_ => o (k_ c0_)) = o (T_spec_l04Speed a_Density a_Height a_Speed a_Shear z k_) := by
  unfold T_spec_l04Speed
  repeat (first | refine grd_out h0 ?_ | refine br_out ?_ ?_ | rfl | exact h0.symm)
noncomputable def spec_l04Speed_p (a_Density : Nat) (a_Height : Nat) (a_Speed : Nat) (a_Shear : Nat) (z : Nat) : Bool := (F_spec_l04Speed a_Density a_Height a_Speed a_Shear z).isSome
noncomputable def spec_l04Speed_v0 (a_Density : Nat) (a_Height : Nat) (a_Speed : Nat) (a_Shear : Nat) (z : Nat) : Nat := ((F_spec_l04Speed a_Density a_Height a_Speed a_Shear z).getD default)
noncomputable def T_spec_l04Next {R : Type} (seed : Int) (k_ : Int → Option R) : Option R := (grd (okNz 2147483648) (k_ (remI (addI IntKind.i64 (mulI IntKind.i64 1103515245 seed) 12345) 2147483648)))
noncomputable def F_spec_l04Next (seed : Int) : Option (Int) := T_spec_l04Next seed (fun c0_ => some c0_)
theorem T_spec_l04Next_nat {R R' : Type} (o : Option R → Option R') (h0 : o none = none) (seed : Int) (k_ : Int → Option R) : T_spec_l04Next seed (fun c0_ => o (k_ c0_)) = o (T_spec_l04Next seed k_) := by
  unfold T_spec_l04Next
  repeat (first | refine grd_out h0 ?_ | refine br_out ?_ ?_ | rfl | exact h0.symm)
noncomputable def spec_l04Next_p (seed : Int) : Bool := (F_spec_l04Next seed).isSome
noncomputable def spec_l04Next_v0 (seed : Int) : Int := ((F_spec_l04Next seed).getD default)
theorem spec_l04Next_of {seed : Int} {r : Int} (h : F_spec_l04Next seed = some r) : spec_l04Next_p seed = true ∧ spec_l04Next_v0 seed = r := by
  unfold spec_l04Next_p spec_l04Next_v0
  rw [h]
  exact ⟨rfl, rfl⟩
noncomputable def T_spec_l01Finite {R : Type} (x : Nat) (k_ : Bool → Option R) : Option R := (k_ (fcmp BinOp.eql FloatKind.f32 (fop BinOp.sub FloatKind.f32 x x) 0))
noncomputable def F_spec_l01Finite (x : Nat) : Option (Bool) := T_spec_l01Finite x (fun c0_ => some c0_)
theorem T_spec_l01Finite_nat {R R' : Type} (o : Option R → Option R') (h0 : o none = none) (x : Nat) (k_ : Bool → Option R) : T_spec_l01Finite x (fun c0_ => o (k_ c0_)) = o (T_spec_l01Finite x k_) := by
  unfold T_spec_l01Finite
  repeat (first | refine grd_out h0 ?_ | refine br_out ?_ ?_ | rfl | exact h0.symm)
noncomputable def spec_l01Finite_p (x : Nat) : Bool := (F_spec_l01Finite x).isSome
noncomputable def spec_l01Finite_v0 (x : Nat) : Bool := ((F_spec_l01Finite x).getD default)
theorem spec_l01Finite_of {x : Nat} {r : Bool} (h : F_spec_l01Finite x = some r) : spec_l01Finite_p x = true ∧ spec_l01Finite_v0 x = r := by
  unfold spec_l01Finite_p spec_l01Finite_v0
  rw [h]
  exact ⟨rfl, rfl⟩
noncomputable def T_impl_within {R : Type} (n_ : Int) (low : Int) (high : Int) (k_ : Bool → Option R) : Option R := (br (leI low n_) (k_ (leI n_ high)) (k_ Bool.false))
noncomputable def F_impl_within (n_ : Int) (low : Int) (high : Int) : Option (Bool) := T_impl_within n_ low high (fun c0_ => some c0_)
theorem T_impl_within_nat {R R' : Type} (o : Option R → Option R') (h0 : o none = none) (n_ : Int) (low : Int) (high : Int) (k_ : Bool → Option R) : T_impl_within n_ low high (fun c0_ => o (k_ c0_)) = o (T_impl_within n_ low high k_) := by
  unfold T_impl_within
  repeat (first | refine grd_out h0 ?_ | refine br_out ?_ ?_ | rfl | exact h0.symm)
noncomputable def impl_within_p (n_ : Int) (low : Int) (high : Int) : Bool := (F_impl_within n_ low high).isSome
noncomputable def impl_within_v0 (n_ : Int) (low : Int) (high : Int) : Bool := ((F_impl_within n_ low high).getD default)
theorem impl_within_of {n_ : Int} {low : Int} {high : Int} {r : Bool} (h : F_impl_within n_ low high = some r) : impl_within_p n_ low high = true ∧ impl_within_v0 n_ low high = r := by
  unfold impl_within_p impl_within_v0
  rw [h]
  exact ⟨rfl, rfl⟩
noncomputable def T_impl_isFromTo {R : Type} (x : Nat) (low : Nat) (high : Nat) (k_ : Bool → Option R) : Option R := (br (fcmp BinOp.geq FloatKind.f32 x low) (k_ (fcmp BinOp.leq FloatKind.f32 x high)) (k_ Bool.false))
noncomputable def F_impl_isFromTo (x : Nat) (low : Nat) (high : Nat) : Option (Bool) := T_impl_isFromTo x low high (fun c0_ => some c0_)
theorem T_impl_isFromTo_nat {R R' : Type} (o : Option R → Option R') (h0 : o none = none) (x : Nat) (low : Nat) (high : Nat) (k_ : Bool → Option R) : T_impl_isFromTo x low high (fun c0_ => o (k_ c0_)) = o (T_impl_isFromTo x low high k_) := by
  unfold T_impl_isFromTo
  repeat (first | refine grd_out h0 ?_ | refine br_out ?_ ?_ | rfl | exact h0.symm)
noncomputable def impl_isFromTo_p (x : Nat) (low : Nat) (high : Nat) : Bool := (F_impl_isFromTo x low high).isSome
noncomputable def impl_isFromTo_v0 (x : Nat) (low : Nat) (high : Nat) : Bool := ((F_impl_isFromTo x low high).getD default)
theorem impl_isFromTo_of {x : Nat} {low : Nat} {high : Nat} {r : Bool} (h : F_impl_isFromTo x low high = some r) : impl_isFromTo_p x low high = true ∧ impl_isFromTo_v0 x low high = r := by
  unfold impl_isFromTo_p impl_isFromTo_v0
  rw [h]
  exact ⟨rfl, rfl⟩
noncomputable def T_impl_IsFinite {R : Type} (x : Nat) (k_ : Bool → Option R) : Option R := (k_ (fcmp BinOp.eql FloatKind.f32 (fop BinOp.sub FloatKind.f32 x x) 0))
noncomputable def F_impl_IsFinite (x : Nat) : Option (Bool) := T_impl_IsFinite x (fun c0_ => some c0_)
theorem T_impl_IsFinite_nat {R R' : Type} (o : Option R → Option R') (h0 : o none = none) (x : Nat) (k_ : Bool → Option R) : T_impl_IsFinite x (fun c0_ => o (k_ c0_)) = o (T_impl_IsFinite x k_) := by
  unfold T_impl_IsFinite
  repeat (first | refine grd_out h0 ?_ | refine br_out ?_ ?_ | rfl | exact h0.symm)
noncomputable def impl_IsFinite_p (x : Nat) : Bool := (F_impl_IsFinite x).isSome
noncomputable def impl_IsFinite_v0 (x : Nat) : Bool := ((F_impl_IsFinite x).getD default)
theorem impl_IsFinite_of {x : Nat} {r : Bool} (h : F_impl_IsFinite x = some r) : impl_IsFinite_p x = true ∧ impl_IsFinite_v0 x = r := by
  unfold impl_IsFinite_p impl_IsFinite_v0
  rw [h]
  exact ⟨rfl, rfl⟩
noncomputable def T_spec_l02Least {R : Type} (x : Nat) (k_ : Bool → Option R) : Option R := (grd (spec_l01Finite_p x) (br (spec_l01Finite_v0 x) (k_ (fcmp BinOp.geq FloatKind.f32 x 0)) (k_ Bool.false)))
noncomputable def F_spec_l02Least (x : Nat) : Option (Bool) := T_spec_l02Least x (fun c0_ => some c0_)
theorem T_spec_l02Least_nat {R R' : Type} (o : Option R → Option R') (h0 : o none = none) (x : Nat) (k_ : Bool → Option R) : T_spec_l02Least x (fun c0_ => o (k_ c0_)) = o (T_spec_l02Least x k_) := by
  unfold T_spec_l02Least
  repeat (first | refine grd_out h0 ?_ | refine br_out ?_ ?_ | rfl | exact h0.symm)
noncomputable def spec_l02Least_p (x : Nat) : Bool := (F_spec_l02Least x).isSome
noncomputable def spec_l02Least_v0 (x : Nat) : Bool := ((F_spec_l02Least x).getD default)
theorem spec_l02Least_of {x : Nat} {r : Bool} (h : F_spec_l02Least x = some r) : spec_l02Least_p x = true ∧ spec_l02Least_v0 x = r := by
  unfold spec_l02Least_p spec_l02Least_v0
  rw [h]
  exact ⟨rfl, rfl⟩
noncomputable def T_spec_l04Seed {R : Type} (seed : Int) (k_ : Bool → Option R) : Option R := (grd (spec_l00In_p seed 0 2147483647) (k_ (spec_l00In_v0 seed 0 2147483647)))
noncomputable def F_spec_l04Seed (seed : Int) : Option (Bool) := T_spec_l04Seed seed (fun c0_ => some c0_)
theorem T_spec_l04Seed_nat {R R' : Type} (o : Option R → Option R') (h0 : o none = none) (seed : Int) (k_ : Bool → Option R) : T_spec_l04Seed seed (fun c0_ => o (k_ c0_)) = o (T_spec_l04Seed seed k_) := by
  unfold T_spec_l04Seed
  repeat (first | refine grd_out h0 ?_ | refine br_out ?_ ?_ | rfl | exact h0.symm)
noncomputable def spec_l04Seed_p (seed : Int) : Bool := (F_spec_l04Seed seed).isSome
noncomputable def spec_l04Seed_v0 (seed : Int) : Bool := ((F_spec_l04Seed seed).getD default)
theorem spec_l04Seed_of {seed : Int} {r : Bool} (h : F_spec_l04Seed seed = some r) : spec_l04Seed_p seed = true ∧ spec_l04Seed_v0 seed = r := by
  unfold spec_l04Seed_p spec_l04Seed_v0
  rw [h]
  exact ⟨rfl, rfl⟩
noncomputable def T_impl_isLeast {R : Type} (x : Nat) (k_ : Bool → Option R) : Option R := (grd (impl_IsFinite_p x) (br (impl_IsFinite_v0 x) (k_ (fcmp BinOp.geq FloatKind.f32 x 0)) (k_ Bool.false)))
noncomputable def F_impl_isLeast (x : Nat) : Option (Bool) := T_impl_isLeast x (fun c0_ => some c0_)
theorem T_impl_isLeast_nat {R R' : Type} (o : Option R → Option R') (h0 : o none = none) (x : Nat) (k_ : Bool → Option R) : T_impl_isLeast x (fun c0_ => o (k_ c0_)) = o (T_impl_isLeast x k_) := by
  unfold T_impl_isLeast
  repeat (first | refine grd_out h0 ?_ | refine br_out ?_ ?_ | rfl | exact h0.symm)
noncomputable def impl_isLeast_p (x : Nat) : Bool := (F_impl_isLeast x).isSome
noncomputable def impl_isLeast_v0 (x : Nat) : Bool := ((F_impl_isLeast x).getD default)
theorem impl_isLeast_of {x : Nat} {r : Bool} (h : F_impl_isLeast x = some r) : impl_isLeast_p x = true ∧ impl_isLeast_v0 x = r := by
  unfold impl_isLeast_p impl_isLeast_v0
  rw [h]
  exact ⟨rfl, rfl⟩
noncomputable def T_impl_checked {R : Type} (x : Nat) (k_ : Nat → Bool → Option R) : Option R := (grd (impl_IsFinite_p x) (br (bnot (impl_IsFinite_v0 x)) (k_ 0 Bool.false) (k_ x Bool.true)))
noncomputable def F_impl_checked (x : Nat) : Option (Nat × Bool) := T_impl_checked x (fun c0_ c1_ => some (c0_, c1_))
theorem T_impl_checked_nat {R R' : Type} (o : Option R → Option R') (h0 : o none = none) (x : Nat) (k_ : Nat → Bool → Option R) : T_impl_checked x (fun c0_ c1_ => o (k_ c0_ c1_)) = o (T_impl_checked x k_) := by
  unfold T_impl_checked
  repeat (first | refine grd_out h0 ?_ | refine br_out ?_ ?_ | rfl | exact h0.symm)
noncomputable def impl_checked_p (x : Nat) : Bool := (F_impl_checked x).isSome
noncomputable def impl_checked_v0 (x : Nat) : Nat := ((F_impl_checked x).getD default).1
noncomputable def impl_checked_v1 (x : Nat) : Bool := ((F_impl_checked x).getD default).2
theorem impl_checked_of {x : Nat} {r : Nat × Bool} (h : F_impl_checked x = some r) : impl_checked_p x = true ∧ impl_checked_v0 x = r.1 ∧ impl_checked_v1 x = r.2 := by
  unfold impl_checked_p impl_checked_v0 impl_checked_v1
  rw [h]
  exact ⟨rfl, rfl, rfl⟩
noncomputable def T_spec_l02Above {R : Type} (x : Nat) (k_ : Bool → Option R) : Option R := (grd (spec_l01Finite_p x) (br (spec_l01Finite_v0 x) (k_ (fcmp BinOp.gtr FloatKind.f32 x 0)) (k_ Bool.false)))
noncomputable def F_spec_l02Above (x : Nat) : Option (Bool) := T_spec_l02Above x (fun c0_ => some c0_)
theorem T_spec_l02Above_nat {R R' : Type} (o : Option R → Option R') (h0 : o none = none) (x : Nat) (k_ : Bool → Option R) : T_spec_l02Above x (fun c0_ => o (k_ c0_)) = o (T_spec_l02Above x k_) := by
  unfold T_spec_l02Above
  repeat (first | refine grd_out h0 ?_ | refine br_out ?_ ?_ | rfl | exact h0.symm)
noncomputable def spec_l02Above_p (x : Nat) : Bool := (F_spec_l02Above x).isSome
noncomputable def spec_l02Above_v0 (x : Nat) : Bool := ((F_spec_l02Above x).getD default)
theorem spec_l02Above_of {x : Nat} {r : Bool} (h : F_spec_l02Above x = some r) : spec_l02Above_p x = true ∧ spec_l02Above_v0 x = r := by
  unfold spec_l02Above_p spec_l02Above_v0
  rw [h]
  exact ⟨rfl, rfl⟩
noncomputable def T_impl_areFinite_1 {R : Type} (x : Nat) (k_ : Bool → Option R) : Option R := (grd (impl_IsFinite_p x) (k_ (bnot (impl_IsFinite_v0 x))))
noncomputable def F_impl_areFinite_1 (x : Nat) : Option (Bool) := T_impl_areFinite_1 x (fun c0_ => some c0_)
theorem T_impl_areFinite_1_nat {R R' : Type} (o : Option R → Option R') (h0 : o none = none) (x : Nat) (k_ : Bool → Option R) : T_impl_areFinite_1 x (fun c0_ => o (k_ c0_)) = o (T_impl_areFinite_1 x k_) := by
  unfold T_impl_areFinite_1
  repeat (first | refine grd_out h0 ?_ | refine br_out ?_ ?_ | rfl | exact h0.symm)
noncomputable def impl_areFinite_1_p (x : Nat) : Bool := (F_impl_areFinite_1 x).isSome
noncomputable def impl_areFinite_1_v0 (x : Nat) : Bool := ((F_impl_areFinite_1 x).getD default)
theorem impl_areFinite_1_of {x : Nat} {r : Bool} (h : F_impl_areFinite_1 x = some r) : impl_areFinite_1_p x = true ∧ impl_areFinite_1_v0 x = r := by
  unfold impl_areFinite_1_p impl_areFinite_1_v0
  rw [h]
  exact ⟨rfl, rfl⟩
noncomputable def T_impl_arePositive_1 {R : Type} (x : Nat) (k_ : Bool → Option R) : Option R := (grd (impl_IsFinite_p x) (br (bnot (impl_IsFinite_v0 x)) (k_ Bool.true) (k_ (fcmp BinOp.leq FloatKind.f32 x 0))))
noncomputable def F_impl_arePositive_1 (x : Nat) : Option (Bool) := T_impl_arePositive_1 x (fun c0_ => some c0_)
theorem T_impl_arePositive_1_nat {R R' : Type} (o : Option R → Option R') (h0 : o none = none) (x : Nat) (k_ : Bool → Option R) : T_impl_arePositive_1 x (fun c0_ => o (k_ c0_)) = o (T_impl_arePositive_1 x k_) := by
  unfold T_impl_arePositive_1
  repeat (first | refine grd_out h0 ?_ | refine br_out ?_ ?_ | rfl | exact h0.symm)
noncomputable def impl_arePositive_1_p (x : Nat) : Bool := (F_impl_arePositive_1 x).isSome
noncomputable def impl_arePositive_1_v0 (x : Nat) : Bool := ((F_impl_arePositive_1 x).getD default)
theorem impl_arePositive_1_of {x : Nat} {r : Bool} (h : F_impl_arePositive_1 x = some r) : impl_arePositive_1_p x = true ∧ impl_arePositive_1_v0 x = r := by
  unfold impl_arePositive_1_p impl_arePositive_1_v0
  rw [h]
  exact ⟨rfl, rfl⟩
noncomputable def T_laws_heldFloat32S_l2 {R : Type} (an : Nat) (b0 : List Nat) (k : Int) (i : Int) (kn_ : Int → Int → Option R) (k0_ : Unit → Option R) (k1_ : Int → Int → Bool → Option R) : Option R := (br (ltI i (Int.ofNat an)) (grd (okIx i an) (br (fcmp BinOp.neq FloatKind.f32 (gF b0 (ixO 0 i 1)) (fOI FloatKind.f32 k)) (k0_ ()) (kn_ (addI IntKind.i64 k 1) (addI IntKind.i64 i 1)))) (k1_ k i (ltI i (Int.ofNat an))))
theorem T_laws_heldFloat32S_l2_nat {R R' : Type} (o : Option R → Option R') (h0 : o none = none) (an : Nat) (b0 : List Nat) (k : Int) (i : Int) (kn_ : Int → Int → Option R) (k0_ : Unit → Option R) (k1_ : Int → Int → Bool → Option R) : T_laws_heldFloat32S_l2 an b0 k i (fun k' i' => o (kn_ k' i')) (fun _ => o (k0_ ())) (fun c0_ c1_ c2_ => o (k1_ c0_ c1_ c2_)) = o (T_laws_heldFloat32S_l2 an b0 k i kn_ k0_ k1_) := by
  unfold T_laws_heldFloat32S_l2
  repeat (first | refine grd_out h0 ?_ | refine br_out ?_ ?_ | rfl | exact h0.symm)
noncomputable def L_laws_heldFloat32S_l2 (an : Nat) (b0 : List Nat) : Nat → Int → Int → Option ((Unit) ⊕ (Int × Int × Bool))
  | 0, _, _ => none
  | n + 1, k, i => T_laws_heldFloat32S_l2 an b0  k i  (fun k' i' => L_laws_heldFloat32S_l2 an b0 n k' i') (fun _ => some (Sum.inl ())) (fun c0_ c1_ c2_ => some (Sum.inr (c0_, c1_, c2_)))
theorem L_laws_heldFloat32S_l2_succ (an : Nat) (b0 : List Nat) (n : Nat) (k : Int) (i : Int) : L_laws_heldFloat32S_l2 an b0 (n + 1) k i = T_laws_heldFloat32S_l2 an b0  k i  (fun k' i' => L_laws_heldFloat32S_l2 an b0 n k' i') (fun _ => some (Sum.inl ())) (fun c0_ c1_ c2_ => some (Sum.inr (c0_, c1_, c2_))) := rfl
noncomputable def laws_heldFloat32S_l2_p (an : Nat) (b0 : List Nat) (k : Int) (i : Int) : Bool := (L_laws_heldFloat32S_l2 an b0 big k i).isSome
noncomputable def laws_heldFloat32S_l2_w0 (an : Nat) (b0 : List Nat) (k : Int) (i : Int) : Bool := oL (L_laws_heldFloat32S_l2 an b0 big k i)
noncomputable def laws_heldFloat32S_l2_a1_0 (an : Nat) (b0 : List Nat) (k : Int) (i : Int) : Int := ((tR (L_laws_heldFloat32S_l2 an b0 big k i)).getD default).1
noncomputable def laws_heldFloat32S_l2_a1_1 (an : Nat) (b0 : List Nat) (k : Int) (i : Int) : Int := ((tR (L_laws_heldFloat32S_l2 an b0 big k i)).getD default).2.1
noncomputable def laws_heldFloat32S_l2_a1_2 (an : Nat) (b0 : List Nat) (k : Int) (i : Int) : Bool := ((tR (L_laws_heldFloat32S_l2 an b0 big k i)).getD default).2.2
theorem laws_heldFloat32S_l2_of1 {an : Nat} {b0 : List Nat} {k : Int} {i : Int} {m : Nat} {r : Int × Int × Bool} (hm : m = big) (h : L_laws_heldFloat32S_l2 an b0 m k i = some (Sum.inr r)) : laws_heldFloat32S_l2_p an b0 k i = true ∧ laws_heldFloat32S_l2_w0 an b0 k i = false ∧ laws_heldFloat32S_l2_a1_0 an b0 k i = r.1 ∧ laws_heldFloat32S_l2_a1_1 an b0 k i = r.2.1 ∧ laws_heldFloat32S_l2_a1_2 an b0 k i = r.2.2 := by
  subst hm
  unfold laws_heldFloat32S_l2_p laws_heldFloat32S_l2_w0 laws_heldFloat32S_l2_a1_0 laws_heldFloat32S_l2_a1_1 laws_heldFloat32S_l2_a1_2
  rw [h]
  exact ⟨rfl, rfl, rfl, rfl, rfl⟩
noncomputable def T_laws_heldFloat32S {R : Type} (a_n : Nat) (a : List Nat) (k : Int) (k_ : Int → Option R) : Option R := (grd (laws_heldFloat32S_l2_p a_n a k 0) (br (laws_heldFloat32S_l2_w0 a_n a k 0) (k_ (Int.negSucc 0)) (k_ (laws_heldFloat32S_l2_a1_0 a_n a k 0))))
noncomputable def F_laws_heldFloat32S (a_n : Nat) (a : List Nat) (k : Int) : Option (Int) := T_laws_heldFloat32S a_n a k (fun c0_ => some c0_)
theorem T_laws_heldFloat32S_nat {R R' : Type} (o : Option R → Option R') (h0 : o none = none) (a_n : Nat) (a : List Nat) (k : Int) (k_ : Int → Option R) : T_laws_heldFloat32S a_n a k (fun c0_ => o (k_ c0_)) = o (T_laws_heldFloat32S a_n a k k_) := by
  unfold T_laws_heldFloat32S
  repeat (first | refine grd_out h0 ?_ | refine br_out ?_ ?_ | rfl | exact h0.symm)
noncomputable def laws_heldFloat32S_p (a_n : Nat) (a : List Nat) (k : Int) : Bool := (F_laws_heldFloat32S a_n a k).isSome
noncomputable def laws_heldFloat32S_v0 (a_n : Nat) (a : List Nat) (k : Int) : Int := ((F_laws_heldFloat32S a_n a k).getD default)
theorem laws_heldFloat32S_of {a_n : Nat} {a : List Nat} {k : Int} {r : Int} (h : F_laws_heldFloat32S a_n a k = some r) : laws_heldFloat32S_p a_n a k = true ∧ laws_heldFloat32S_v0 a_n a k = r := by
  unfold laws_heldFloat32S_p laws_heldFloat32S_v0
  rw [h]
  exact ⟨rfl, rfl⟩
noncomputable def T_spec_l04Is {R : Type} (a_Density : Nat) (a_Height : Nat) (a_Speed : Nat) (a_Shear : Nat) (k_ : Bool → Option R) : Option R := (grd (spec_l02Above_p a_Density) (br (spec_l02Above_v0 a_Density) (grd (spec_l02Above_p a_Height) (br (spec_l02Above_v0 a_Height) (grd (spec_l02Least_p a_Speed) (br (spec_l02Least_v0 a_Speed) (grd (spec_l04Share_p a_Shear) (k_ (spec_l04Share_v0 a_Shear))) (k_ Bool.false))) (k_ Bool.false))) (k_ Bool.false)))
noncomputable def F_spec_l04Is (a_Density : Nat) (a_Height : Nat) (a_Speed : Nat) (a_Shear : Nat) : Option (Bool) := T_spec_l04Is a_Density a_Height a_Speed a_Shear (fun c0_ => some c0_)
theorem T_spec_l04Is_nat {R R' : Type} (o : Option R → Option R') (h0 : o none = none) (a_Density : Nat) (a_Height : Nat) (a_Speed : Nat) (a_Shear : Nat) (k_ : Bool → Option R) : T_spec_l04Is a_Density a_Height a_Speed a_Shear (fun c0_ => o (k_ c0_)) = o (T_spec_l04Is a_Density a_Height a_Speed a_Shear k_) := by
  unfold T_spec_l04Is
  repeat (first | refine grd_out h0 ?_ | refine br_out ?_ ?_ | rfl | exact h0.symm)
noncomputable def spec_l04Is_p (a_Density : Nat) (a_Height : Nat) (a_Speed : Nat) (a_Shear : Nat) : Bool := (F_spec_l04Is a_Density a_Height a_Speed a_Shear).isSome
noncomputable def spec_l04Is_v0 (a_Density : Nat) (a_Height : Nat) (a_Speed : Nat) (a_Shear : Nat) : Bool := ((F_spec_l04Is a_Density a_Height a_Speed a_Shear).getD default)
theorem spec_l04Is_of {a_Density : Nat} {a_Height : Nat} {a_Speed : Nat} {a_Shear : Nat} {r : Bool} (h : F_spec_l04Is a_Density a_Height a_Speed a_Shear = some r) : spec_l04Is_p a_Density a_Height a_Speed a_Shear = true ∧ spec_l04Is_v0 a_Density a_Height a_Speed a_Shear = r := by
  unfold spec_l04Is_p spec_l04Is_v0
  rw [h]
  exact ⟨rfl, rfl⟩
noncomputable def T_laws_eqFloat32S_l4 {R : Type} (an : Nat) (bn : Nat) (b0 : List Nat) (b1 : List Nat) (i : Int) (kn_ : Int → Option R) (k0_ : Unit → Option R) (k1_ : Int → Bool → Option R) : Option R := (br (ltI i (Int.ofNat an)) (grd (okIx i an) (grd (okIx i bn) (grd (laws_sameFloat_p (fcvV FloatKind.f32 FloatKind.f64 (gF b0 (ixO 0 i 1))) (fcvV FloatKind.f32 FloatKind.f64 (gF b1 (ixO 0 i 1)))) (br (bnot (laws_sameFloat_v0 (fcvV FloatKind.f32 FloatKind.f64 (gF b0 (ixO 0 i 1))) (fcvV FloatKind.f32 FloatKind.f64 (gF b1 (ixO 0 i 1))))) (k0_ ()) (kn_ (addI IntKind.i64 i 1)))))) (k1_ i (ltI i (Int.ofNat an))))
theorem T_laws_eqFloat32S_l4_nat {R R' : Type} (o : Option R → Option R') (h0 : o none = none) (an : Nat) (bn : Nat) (b0 : List Nat) (b1 : List Nat) (i : Int) (kn_ : Int → Option R) (k0_ : Unit → Option R) (k1_ : Int → Bool → Option R) : T_laws_eqFloat32S_l4 an bn b0 b1 i (fun i' => o (kn_ i')) (fun _ => o (k0_ ())) (fun c0_ c1_ => o (k1_ c0_ c1_)) = o (T_laws_eqFloat32S_l4 an bn b0 b1 i kn_ k0_ k1_) := by
  unfold T_laws_eqFloat32S_l4
  repeat (first | refine grd_out h0 ?_ | refine br_out ?_ ?_ | rfl | exact h0.symm)
noncomputable def L_laws_eqFloat32S_l4 (an : Nat) (bn : Nat) (b0 : List Nat) (b1 : List Nat) : Nat → Int → Option ((Unit) ⊕ (Int × Bool))
  | 0, _ => none
  | n + 1, i => T_laws_eqFloat32S_l4 an bn b0 b1  i  (fun i' => L_laws_eqFloat32S_l4 an bn b0 b1 n i') (fun _ => some (Sum.inl ())) (fun c0_ c1_ => some (Sum.inr (c0_, c1_)))
theorem L_laws_eqFloat32S_l4_succ (an : Nat) (bn : Nat) (b0 : List Nat) (b1 : List Nat) (n : Nat) (i : Int) : L_laws_eqFloat32S_l4 an bn b0 b1 (n + 1) i = T_laws_eqFloat32S_l4 an bn b0 b1  i  (fun i' => L_laws_eqFloat32S_l4 an bn b0 b1 n i') (fun _ => some (Sum.inl ())) (fun c0_ c1_ => some (Sum.inr (c0_, c1_))) := rfl
noncomputable def laws_eqFloat32S_l4_p (an : Nat) (bn : Nat) (b0 : List Nat) (b1 : List Nat) (i : Int) : Bool := (L_laws_eqFloat32S_l4 an bn b0 b1 big i).isSome
noncomputable def laws_eqFloat32S_l4_w0 (an : Nat) (bn : Nat) (b0 : List Nat) (b1 : List Nat) (i : Int) : Bool := oL (L_laws_eqFloat32S_l4 an bn b0 b1 big i)
noncomputable def laws_eqFloat32S_l4_a1_0 (an : Nat) (bn : Nat) (b0 : List Nat) (b1 : List Nat) (i : Int) : Int := ((tR (L_laws_eqFloat32S_l4 an bn b0 b1 big i)).getD default).1
noncomputable def laws_eqFloat32S_l4_a1_1 (an : Nat) (bn : Nat) (b0 : List Nat) (b1 : List Nat) (i : Int) : Bool := ((tR (L_laws_eqFloat32S_l4 an bn b0 b1 big i)).getD default).2
theorem laws_eqFloat32S_l4_of1 {an : Nat} {bn : Nat} {b0 : List Nat} {b1 : List Nat} {i : Int} {m : Nat} {r : Int × Bool} (hm : m = big) (h : L_laws_eqFloat32S_l4 an bn b0 b1 m i = some (Sum.inr r)) : laws_eqFloat32S_l4_p an bn b0 b1 i = true ∧ laws_eqFloat32S_l4_w0 an bn b0 b1 i = false ∧ laws_eqFloat32S_l4_a1_0 an bn b0 b1 i = r.1 ∧ laws_eqFloat32S_l4_a1_1 an bn b0 b1 i = r.2 := by
  subst hm
  unfold laws_eqFloat32S_l4_p laws_eqFloat32S_l4_w0 laws_eqFloat32S_l4_a1_0 laws_eqFloat32S_l4_a1_1
  rw [h]
  exact ⟨rfl, rfl, rfl, rfl⟩
noncomputable def T_laws_eqFloat32S {R : Type} (a_n : Nat) (a : List Nat) (b_n : Nat) (b : List Nat) (k_ : Bool → Option R) : Option R := (br (neI (Int.ofNat a_n) (Int.ofNat b_n)) (k_ Bool.false) (grd (laws_eqFloat32S_l4_p a_n b_n a b 0) (br (laws_eqFloat32S_l4_w0 a_n b_n a b 0) (k_ Bool.false) (k_ Bool.true))))
noncomputable def F_laws_eqFloat32S (a_n : Nat) (a : List Nat) (b_n : Nat) (b : List Nat) : Option (Bool) := T_laws_eqFloat32S a_n a b_n b (fun c0_ => some c0_)
theorem T_laws_eqFloat32S_nat {R R' : Type} (o : Option R → Option R') (h0 : o none = none) (a_n : Nat) (a : List Nat) (b_n : Nat) (b : List Nat) (k_ : Bool → Option R) : T_laws_eqFloat32S a_n a b_n b (fun c0_ => o (k_ c0_)) = o (T_laws_eqFloat32S a_n a b_n b k_) := by
  unfold T_laws_eqFloat32S
  repeat (first | refine grd_out h0 ?_ | refine br_out ?_ ?_ | rfl | exact h0.symm)
noncomputable def laws_eqFloat32S_p (a_n : Nat) (a : List Nat) (b_n : Nat) (b : List Nat) : Bool := (F_laws_eqFloat32S a_n a b_n b).isSome
noncomputable def laws_eqFloat32S_v0 (a_n : Nat) (a : List Nat) (b_n : Nat) (b : List Nat) : Bool := ((F_laws_eqFloat32S a_n a b_n b).getD default)
theorem laws_eqFloat32S_of {a_n : Nat} {a : List Nat} {b_n : Nat} {b : List Nat} {r : Bool} (h : F_laws_eqFloat32S a_n a b_n b = some r) : laws_eqFloat32S_p a_n a b_n b = true ∧ laws_eqFloat32S_v0 a_n a b_n b = r := by
  unfold laws_eqFloat32S_p laws_eqFloat32S_v0
  rw [h]
  exact ⟨rfl, rfl⟩
noncomputable def T_slices_IndexFunc_sf32_f32_areFinite_1_l2 {R : Type} (sn : Nat) (t7 : Int) (b0 : List Nat) (t8 : Int) (kn_ : Int → Option R) (k0_ : Int → Option R) (k1_ : Int → Bool → Option R) : Option R := (br (ltI t8 t7) (grd (okIx t8 sn) (grd (impl_areFinite_1_p (gF b0 (ixO 0 t8 1))) (br (impl_areFinite_1_v0 (gF b0 (ixO 0 t8 1))) (k0_ t8) (kn_ (addI IntKind.i64 t8 1))))) (k1_ t8 (ltI t8 t7)))
theorem T_slices_IndexFunc_sf32_f32_areFinite_1_l2_nat {R R' : Type} (o : Option R → Option R') (h0 : o none = none) (sn : Nat) (t7 : Int) (b0 : List Nat) (t8 : Int) (kn_ : Int → Option R) (k0_ : Int → Option R) (k1_ : Int → Bool → Option R) : T_slices_IndexFunc_sf32_f32_areFinite_1_l2 sn t7 b0 t8 (fun t8' => o (kn_ t8')) (fun c0_ => o (k0_ c0_)) (fun c0_ c1_ => o (k1_ c0_ c1_)) = o (T_slices_IndexFunc_sf32_f32_areFinite_1_l2 sn t7 b0 t8 kn_ k0_ k1_) := by
  unfold T_slices_IndexFunc_sf32_f32_areFinite_1_l2
  repeat (first | refine grd_out h0 ?_ | refine br_out ?_ ?_ | rfl | exact h0.symm)
noncomputable def L_slices_IndexFunc_sf32_f32_areFinite_1_l2 (sn : Nat) (t7 : Int) (b0 : List Nat) : Nat → Int → Option ((Int) ⊕ (Int × Bool))
  | 0, _ => none
  | n + 1, t8 => T_slices_IndexFunc_sf32_f32_areFinite_1_l2 sn t7 b0  t8  (fun t8' => L_slices_IndexFunc_sf32_f32_areFinite_1_l2 sn t7 b0 n t8') (fun c0_ => some (Sum.inl c0_)) (fun c0_ c1_ => some (Sum.inr (c0_, c1_)))
theorem L_slices_IndexFunc_sf32_f32_areFinite_1_l2_succ (sn : Nat) (t7 : Int) (b0 : List Nat) (n : Nat) (t8 : Int) : L_slices_IndexFunc_sf32_f32_areFinite_1_l2 sn t7 b0 (n + 1) t8 = T_slices_IndexFunc_sf32_f32_areFinite_1_l2 sn t7 b0  t8  (fun t8' => L_slices_IndexFunc_sf32_f32_areFinite_1_l2 sn t7 b0 n t8') (fun c0_ => some (Sum.inl c0_)) (fun c0_ c1_ => some (Sum.inr (c0_, c1_))) := rfl
noncomputable def slices_IndexFunc_sf32_f32_areFinite_1_l2_p (sn : Nat) (t7 : Int) (b0 : List Nat) (t8 : Int) : Bool := (L_slices_IndexFunc_sf32_f32_areFinite_1_l2 sn t7 b0 big t8).isSome
noncomputable def slices_IndexFunc_sf32_f32_areFinite_1_l2_w0 (sn : Nat) (t7 : Int) (b0 : List Nat) (t8 : Int) : Bool := oL (L_slices_IndexFunc_sf32_f32_areFinite_1_l2 sn t7 b0 big t8)
noncomputable def slices_IndexFunc_sf32_f32_areFinite_1_l2_a0_0 (sn : Nat) (t7 : Int) (b0 : List Nat) (t8 : Int) : Int := ((tL (L_slices_IndexFunc_sf32_f32_areFinite_1_l2 sn t7 b0 big t8)).getD default)
noncomputable def slices_IndexFunc_sf32_f32_areFinite_1_l2_a1_0 (sn : Nat) (t7 : Int) (b0 : List Nat) (t8 : Int) : Int := ((tR (L_slices_IndexFunc_sf32_f32_areFinite_1_l2 sn t7 b0 big t8)).getD default).1
noncomputable def slices_IndexFunc_sf32_f32_areFinite_1_l2_a1_1 (sn : Nat) (t7 : Int) (b0 : List Nat) (t8 : Int) : Bool := ((tR (L_slices_IndexFunc_sf32_f32_areFinite_1_l2 sn t7 b0 big t8)).getD default).2
theorem slices_IndexFunc_sf32_f32_areFinite_1_l2_of0 {sn : Nat} {t7 : Int} {b0 : List Nat} {t8 : Int} {m : Nat} {r : Int} (hm : m = big) (h : L_slices_IndexFunc_sf32_f32_areFinite_1_l2 sn t7 b0 m t8 = some (Sum.inl r)) : slices_IndexFunc_sf32_f32_areFinite_1_l2_p sn t7 b0 t8 = true ∧ slices_IndexFunc_sf32_f32_areFinite_1_l2_w0 sn t7 b0 t8 = true ∧ slices_IndexFunc_sf32_f32_areFinite_1_l2_a0_0 sn t7 b0 t8 = r := by
  subst hm
  unfold slices_IndexFunc_sf32_f32_areFinite_1_l2_p slices_IndexFunc_sf32_f32_areFinite_1_l2_w0 slices_IndexFunc_sf32_f32_areFinite_1_l2_a0_0
  rw [h]
  exact ⟨rfl, rfl, rfl⟩
theorem slices_IndexFunc_sf32_f32_areFinite_1_l2_of1 {sn : Nat} {t7 : Int} {b0 : List Nat} {t8 : Int} {m : Nat} {r : Int × Bool} (hm : m = big) (h : L_slices_IndexFunc_sf32_f32_areFinite_1_l2 sn t7 b0 m t8 = some (Sum.inr r)) : slices_IndexFunc_sf32_f32_areFinite_1_l2_p sn t7 b0 t8 = true ∧ slices_IndexFunc_sf32_f32_areFinite_1_l2_w0 sn t7 b0 t8 = false ∧ slices_IndexFunc_sf32_f32_areFinite_1_l2_a1_0 sn t7 b0 t8 = r.1 ∧ slices_IndexFunc_sf32_f32_areFinite_1_l2_a1_1 sn t7 b0 t8 = r.2 := by
  subst hm
  unfold slices_IndexFunc_sf32_f32_areFinite_1_l2_p slices_IndexFunc_sf32_f32_areFinite_1_l2_w0 slices_IndexFunc_sf32_f32_areFinite_1_l2_a1_0 slices_IndexFunc_sf32_f32_areFinite_1_l2_a1_1
  rw [h]
  exact ⟨rfl, rfl, rfl, rfl⟩
noncomputable def T_slices_IndexFunc_sf32_f32_arePositive_1_l2 {R : Type} (sn : Nat) (t7 : Int) (b0 : List Nat) (t8 : Int) (kn_ : Int → Option R) (k0_ : Int → Option R) (k1_ : Int → Bool → Option R) : Option R := (br (ltI t8 t7) (grd (okIx t8 sn) (grd (impl_arePositive_1_p (gF b0 (ixO 0 t8 1))) (br (impl_arePositive_1_v0 (gF b0 (ixO 0 t8 1))) (k0_ t8) (kn_ (addI IntKind.i64 t8 1))))) (k1_ t8 (ltI t8 t7)))
theorem T_slices_IndexFunc_sf32_f32_arePositive_1_l2_nat {R R' : Type} (o : Option R → Option R') (h0 : o none = none) (sn : Nat) (t7 : Int) (b0 : List Nat) (t8 : Int) (kn_ : Int → Option R) (k0_ : Int → Option R) (k1_ : Int → Bool → Option R) : T_slices_IndexFunc_sf32_f32_arePositive_1_l2 sn t7 b0 t8 (fun t8' => o (kn_ t8')) (fun c0_ => o (k0_ c0_)) (fun c0_ c1_ => o (k1_ c0_ c1_)) = o (T_slices_IndexFunc_sf32_f32_arePositive_1_l2 sn t7 b0 t8 kn_ k0_ k1_) := by
  unfold T_slices_IndexFunc_sf32_f32_arePositive_1_l2
  repeat (first | refine grd_out h0 ?_ | refine br_out ?_ ?_ | rfl | exact h0.symm)
noncomputable def L_slices_IndexFunc_sf32_f32_arePositive_1_l2 (sn : Nat) (t7 : Int) (b0 : List Nat) : Nat → Int → Option ((Int) ⊕ (Int × Bool))
  | 0, _ => none
  | n + 1, t8 => T_slices_IndexFunc_sf32_f32_arePositive_1_l2 sn t7 b0  t8  (fun t8' => L_slices_IndexFunc_sf32_f32_arePositive_1_l2 sn t7 b0 n t8') (fun c0_ => some (Sum.inl c0_)) (fun c0_ c1_ => some (Sum.inr (c0_, c1_)))
theorem L_slices_IndexFunc_sf32_f32_arePositive_1_l2_succ (sn : Nat) (t7 : Int) (b0 : List Nat) (n : Nat) (t8 : Int) : L_slices_IndexFunc_sf32_f32_arePositive_1_l2 sn t7 b0 (n + 1) t8 = T_slices_IndexFunc_sf32_f32_arePositive_1_l2 sn t7 b0  t8  (fun t8' => L_slices_IndexFunc_sf32_f32_arePositive_1_l2 sn t7 b0 n t8') (fun c0_ => some (Sum.inl c0_)) (fun c0_ c1_ => some (Sum.inr (c0_, c1_))) := rfl
noncomputable def slices_IndexFunc_sf32_f32_arePositive_1_l2_p (sn : Nat) (t7 : Int) (b0 : List Nat) (t8 : Int) : Bool := (L_slices_IndexFunc_sf32_f32_arePositive_1_l2 sn t7 b0 big t8).isSome
noncomputable def slices_IndexFunc_sf32_f32_arePositive_1_l2_w0 (sn : Nat) (t7 : Int) (b0 : List Nat) (t8 : Int) : Bool := oL (L_slices_IndexFunc_sf32_f32_arePositive_1_l2 sn t7 b0 big t8)
noncomputable def slices_IndexFunc_sf32_f32_arePositive_1_l2_a0_0 (sn : Nat) (t7 : Int) (b0 : List Nat) (t8 : Int) : Int := ((tL (L_slices_IndexFunc_sf32_f32_arePositive_1_l2 sn t7 b0 big t8)).getD default)
noncomputable def slices_IndexFunc_sf32_f32_arePositive_1_l2_a1_0 (sn : Nat) (t7 : Int) (b0 : List Nat) (t8 : Int) : Int := ((tR (L_slices_IndexFunc_sf32_f32_arePositive_1_l2 sn t7 b0 big t8)).getD default).1
noncomputable def slices_IndexFunc_sf32_f32_arePositive_1_l2_a1_1 (sn : Nat) (t7 : Int) (b0 : List Nat) (t8 : Int) : Bool := ((tR (L_slices_IndexFunc_sf32_f32_arePositive_1_l2 sn t7 b0 big t8)).getD default).2
theorem slices_IndexFunc_sf32_f32_arePositive_1_l2_of0 {sn : Nat} {t7 : Int} {b0 : List Nat} {t8 : Int} {m : Nat} {r : Int} (hm : m = big) (h : L_slices_IndexFunc_sf32_f32_arePositive_1_l2 sn t7 b0 m t8 = some (Sum.inl r)) : slices_IndexFunc_sf32_f32_arePositive_1_l2_p sn t7 b0 t8 = true ∧ slices_IndexFunc_sf32_f32_arePositive_1_l2_w0 sn t7 b0 t8 = true ∧ slices_IndexFunc_sf32_f32_arePositive_1_l2_a0_0 sn t7 b0 t8 = r := by
  subst hm
  unfold slices_IndexFunc_sf32_f32_arePositive_1_l2_p slices_IndexFunc_sf32_f32_arePositive_1_l2_w0 slices_IndexFunc_sf32_f32_arePositive_1_l2_a0_0
  rw [h]
  exact ⟨rfl, rfl, rfl⟩
theorem slices_IndexFunc_sf32_f32_arePositive_1_l2_of1 {sn : Nat} {t7 : Int} {b0 : List Nat} {t8 : Int} {m : Nat} {r : Int × Bool} (hm : m = big) (h : L_slices_IndexFunc_sf32_f32_arePositive_1_l2 sn t7 b0 m t8 = some (Sum.inr r)) : slices_IndexFunc_sf32_f32_arePositive_1_l2_p sn t7 b0 t8 = true ∧ slices_IndexFunc_sf32_f32_arePositive_1_l2_w0 sn t7 b0 t8 = false ∧ slices_IndexFunc_sf32_f32_arePositive_1_l2_a1_0 sn t7 b0 t8 = r.1 ∧ slices_IndexFunc_sf32_f32_arePositive_1_l2_a1_1 sn t7 b0 t8 = r.2 := by
  subst hm
  unfold slices_IndexFunc_sf32_f32_arePositive_1_l2_p slices_IndexFunc_sf32_f32_arePositive_1_l2_w0 slices_IndexFunc_sf32_f32_arePositive_1_l2_a1_0 slices_IndexFunc_sf32_f32_arePositive_1_l2_a1_1
  rw [h]
  exact ⟨rfl, rfl, rfl, rfl⟩
noncomputable def T_slices_IndexFunc_sf32_f32_areFinite_1 {R : Type} (s_n : Nat) (s : List Nat) (k_ : Int → Option R) : Option R := (grd (slices_IndexFunc_sf32_f32_areFinite_1_l2_p s_n (Int.ofNat s_n) s 0) (br (slices_IndexFunc_sf32_f32_areFinite_1_l2_w0 s_n (Int.ofNat s_n) s 0) (k_ (slices_IndexFunc_sf32_f32_areFinite_1_l2_a0_0 s_n (Int.ofNat s_n) s 0)) (k_ (Int.negSucc 0))))
noncomputable def F_slices_IndexFunc_sf32_f32_areFinite_1 (s_n : Nat) (s : List Nat) : Option (Int) := T_slices_IndexFunc_sf32_f32_areFinite_1 s_n s (fun c0_ => some c0_)
theorem T_slices_IndexFunc_sf32_f32_areFinite_1_nat {R R' : Type} (o : Option R → Option R') (h0 : o none = none) (s_n : Nat) (s : List Nat) (k_ : Int → Option R) : T_slices_IndexFunc_sf32_f32_areFinite_1 s_n s (fun c0_ => o (k_ c0_)) = o (T_slices_IndexFunc_sf32_f32_areFinite_1 s_n s k_) := by
  unfold T_slices_IndexFunc_sf32_f32_areFinite_1
  repeat (first | refine grd_out h0 ?_ | refine br_out ?_ ?_ | rfl | exact h0.symm)
noncomputable def slices_IndexFunc_sf32_f32_areFinite_1_p (s_n : Nat) (s : List Nat) : Bool := (F_slices_IndexFunc_sf32_f32_areFinite_1 s_n s).isSome
noncomputable def slices_IndexFunc_sf32_f32_areFinite_1_v0 (s_n : Nat) (s : List Nat) : Int := ((F_slices_IndexFunc_sf32_f32_areFinite_1 s_n s).getD default)
theorem slices_IndexFunc_sf32_f32_areFinite_1_of {s_n : Nat} {s : List Nat} {r : Int} (h : F_slices_IndexFunc_sf32_f32_areFinite_1 s_n s = some r) : slices_IndexFunc_sf32_f32_areFinite_1_p s_n s = true ∧ slices_IndexFunc_sf32_f32_areFinite_1_v0 s_n s = r := by
  unfold slices_IndexFunc_sf32_f32_areFinite_1_p slices_IndexFunc_sf32_f32_areFinite_1_v0
  rw [h]
  exact ⟨rfl, rfl⟩
noncomputable def T_slices_IndexFunc_sf32_f32_arePositive_1 {R : Type} (s_n : Nat) (s : List Nat) (k_ : Int → Option R) : Option R := (grd (slices_IndexFunc_sf32_f32_arePositive_1_l2_p s_n (Int.ofNat s_n) s 0) (br (slices_IndexFunc_sf32_f32_arePositive_1_l2_w0 s_n (Int.ofNat s_n) s 0) (k_ (slices_IndexFunc_sf32_f32_arePositive_1_l2_a0_0 s_n (Int.ofNat s_n) s 0)) (k_ (Int.negSucc 0))))
noncomputable def F_slices_IndexFunc_sf32_f32_arePositive_1 (s_n : Nat) (s : List Nat) : Option (Int) := T_slices_IndexFunc_sf32_f32_arePositive_1 s_n s (fun c0_ => some c0_)
theorem T_slices_IndexFunc_sf32_f32_arePositive_1_nat {R R' : Type} (o : Option R → Option R') (h0 : o none = none) (s_n : Nat) (s : List Nat) (k_ : Int → Option R) : T_slices_IndexFunc_sf32_f32_arePositive_1 s_n s (fun c0_ => o (k_ c0_)) = o (T_slices_IndexFunc_sf32_f32_arePositive_1 s_n s k_) := by
  unfold T_slices_IndexFunc_sf32_f32_arePositive_1
  repeat (first | refine grd_out h0 ?_ | refine br_out ?_ ?_ | rfl | exact h0.symm)
noncomputable def slices_IndexFunc_sf32_f32_arePositive_1_p (s_n : Nat) (s : List Nat) : Bool := (F_slices_IndexFunc_sf32_f32_arePositive_1 s_n s).isSome
noncomputable def slices_IndexFunc_sf32_f32_arePositive_1_v0 (s_n : Nat) (s : List Nat) : Int := ((F_slices_IndexFunc_sf32_f32_arePositive_1 s_n s).getD default)
theorem slices_IndexFunc_sf32_f32_arePositive_1_of {s_n : Nat} {s : List Nat} {r : Int} (h : F_slices_IndexFunc_sf32_f32_arePositive_1 s_n s = some r) : slices_IndexFunc_sf32_f32_arePositive_1_p s_n s = true ∧ slices_IndexFunc_sf32_f32_arePositive_1_v0 s_n s = r := by
  unfold slices_IndexFunc_sf32_f32_arePositive_1_p slices_IndexFunc_sf32_f32_arePositive_1_v0
  rw [h]
  exact ⟨rfl, rfl⟩
noncomputable def T_spec_GustsOf_l7 {R : Type} (t2 : Int) (t3 : Nat) (t4 : Nat) (t17 : Nat) (t5 : Int) (t15n : Nat) (t16 : Nat) (t18 : Int) (b0 : List Nat) (kn_ : Int → Nat → Nat → Int → (List Nat) → Option R) (k0_ : Unit → Option R) (k1_ : Int → Nat → Nat → Int → Bool → (List Nat) → Option R) : Option R := (br (ltI t18 t2) (grd (spec_l04Next_p t5) (grd (okNz 65536) (br (bnot (fcmp BinOp.gtr FloatKind.f32 (fop BinOp.mul FloatKind.f32 t17 (fop BinOp.add FloatKind.f32 1065353216 (fop BinOp.add FloatKind.f32 (fop BinOp.mul FloatKind.f32 t4 t16) (fop BinOp.mul FloatKind.f32 t3 (fop BinOp.quo FloatKind.f32 (fOI FloatKind.f32 (subI IntKind.i64 (quoI IntKind.i64 (spec_l04Next_v0 t5) 65536) 16384)) 1182793728))))) 0)) (grd (spec_l01Finite_p 0) (br (bnot (spec_l01Finite_v0 0)) (k0_ ()) (grd (spec_l01Finite_p t17) (br (bnot (spec_l01Finite_v0 t17)) (k0_ ()) (grd (okA2 t15n 1 4 (nF (pF [0] 0 (muN 1 1))) (nF b0) 1) (kn_ (spec_l04Next_v0 t5) (adN t15n 1) (fop BinOp.add FloatKind.f32 (fop BinOp.mul FloatKind.f32 t4 t16) (fop BinOp.mul FloatKind.f32 t3 (fop BinOp.quo FloatKind.f32 (fOI FloatKind.f32 (subI IntKind.i64 (quoI IntKind.i64 (spec_l04Next_v0 t5) 65536) 16384)) 1182793728))) (addI IntKind.i64 t18 1) (aF b0 (pF [0] 0 (muN 1 1))))))))) (grd (spec_l01Finite_p (fop BinOp.mul FloatKind.f32 t17 (fop BinOp.add FloatKind.f32 1065353216 (fop BinOp.add FloatKind.f32 (fop BinOp.mul FloatKind.f32 t4 t16) (fop BinOp.mul FloatKind.f32 t3 (fop BinOp.quo FloatKind.f32 (fOI FloatKind.f32 (subI IntKind.i64 (quoI IntKind.i64 (spec_l04Next_v0 t5) 65536) 16384)) 1182793728)))))) (br (bnot (spec_l01Finite_v0 (fop BinOp.mul FloatKind.f32 t17 (fop BinOp.add FloatKind.f32 1065353216 (fop BinOp.add FloatKind.f32 (fop BinOp.mul FloatKind.f32 t4 t16) (fop BinOp.mul FloatKind.f32 t3 (fop BinOp.quo FloatKind.f32 (fOI FloatKind.f32 (subI IntKind.i64 (quoI IntKind.i64 (spec_l04Next_v0 t5) 65536) 16384)) 1182793728))))))) (k0_ ()) (grd (spec_l01Finite_p t17) (br (bnot (spec_l01Finite_v0 t17)) (k0_ ()) (grd (okA2 t15n 1 4 (nF (pF [(fop BinOp.mul FloatKind.f32 t17 (fop BinOp.add FloatKind.f32 1065353216 (fop BinOp.add FloatKind.f32 (fop BinOp.mul FloatKind.f32 t4 t16) (fop BinOp.mul FloatKind.f32 t3 (fop BinOp.quo FloatKind.f32 (fOI FloatKind.f32 (subI IntKind.i64 (quoI IntKind.i64 (spec_l04Next_v0 t5) 65536) 16384)) 1182793728)))))] 0 (muN 1 1))) (nF b0) 1) (kn_ (spec_l04Next_v0 t5) (adN t15n 1) (fop BinOp.add FloatKind.f32 (fop BinOp.mul FloatKind.f32 t4 t16) (fop BinOp.mul FloatKind.f32 t3 (fop BinOp.quo FloatKind.f32 (fOI FloatKind.f32 (subI IntKind.i64 (quoI IntKind.i64 (spec_l04Next_v0 t5) 65536) 16384)) 1182793728))) (addI IntKind.i64 t18 1) (aF b0 (pF [(fop BinOp.mul FloatKind.f32 t17 (fop BinOp.add FloatKind.f32 1065353216 (fop BinOp.add FloatKind.f32 (fop BinOp.mul FloatKind.f32 t4 t16) (fop BinOp.mul FloatKind.f32 t3 (fop BinOp.quo FloatKind.f32 (fOI FloatKind.f32 (subI IntKind.i64 (quoI IntKind.i64 (spec_l04Next_v0 t5) 65536) 16384)) 1182793728)))))] 0 (muN 1 1)))))))))))) (k1_ t5 t15n t16 t18 (ltI t18 t2) b0))
theorem T_spec_GustsOf_l7_nat {R R' : Type} (o : Option R → Option R') (h0 : o none = none) (t2 : Int) (t3 : Nat) (t4 : Nat) (t17 : Nat) (t5 : Int) (t15n : Nat) (t16 : Nat) (t18 : Int) (b0 : List Nat) (kn_ : Int → Nat → Nat → Int → (List Nat) → Option R) (k0_ : Unit → Option R) (k1_ : Int → Nat → Nat → Int → Bool → (List Nat) → Option R) : T_spec_GustsOf_l7 t2 t3 t4 t17 t5 t15n t16 t18 b0 (fun t5' t15n' t16' t18' b0' => o (kn_ t5' t15n' t16' t18' b0')) (fun _ => o (k0_ ())) (fun c0_ c1_ c2_ c3_ c4_ c5_ => o (k1_ c0_ c1_ c2_ c3_ c4_ c5_)) = o (T_spec_GustsOf_l7 t2 t3 t4 t17 t5 t15n t16 t18 b0 kn_ k0_ k1_) := by
  unfold T_spec_GustsOf_l7
  repeat (first | refine grd_out h0 ?_ | refine br_out ?_ ?_ | rfl | exact h0.symm)
noncomputable def L_spec_GustsOf_l7 (t2 : Int) (t3 : Nat) (t4 : Nat) (t17 : Nat) : Nat → Int → Nat → Nat → Int → (List Nat) → Option ((Unit) ⊕ (Int × Nat × Nat × Int × Bool × (List Nat)))
  | 0, _, _, _, _, _ => none
  | n + 1, t5, t15n, t16, t18, b0 => T_spec_GustsOf_l7 t2 t3 t4 t17  t5 t15n t16 t18 b0  (fun t5' t15n' t16' t18' b0' => L_spec_GustsOf_l7 t2 t3 t4 t17 n t5' t15n' t16' t18' b0') (fun _ => some (Sum.inl ())) (fun c0_ c1_ c2_ c3_ c4_ c5_ => some (Sum.inr (c0_, c1_, c2_, c3_, c4_, c5_)))
theorem L_spec_GustsOf_l7_succ (t2 : Int) (t3 : Nat) (t4 : Nat) (t17 : Nat) (n : Nat) (t5 : Int) (t15n : Nat) (t16 : Nat) (t18 : Int) (b0 : List Nat) : L_spec_GustsOf_l7 t2 t3 t4 t17 (n + 1) t5 t15n t16 t18 b0 = T_spec_GustsOf_l7 t2 t3 t4 t17  t5 t15n t16 t18 b0  (fun t5' t15n' t16' t18' b0' => L_spec_GustsOf_l7 t2 t3 t4 t17 n t5' t15n' t16' t18' b0') (fun _ => some (Sum.inl ())) (fun c0_ c1_ c2_ c3_ c4_ c5_ => some (Sum.inr (c0_, c1_, c2_, c3_, c4_, c5_))) := rfl
noncomputable def spec_GustsOf_l7_p (t2 : Int) (t3 : Nat) (t4 : Nat) (t17 : Nat) (t5 : Int) (t15n : Nat) (t16 : Nat) (t18 : Int) (b0 : List Nat) : Bool := (L_spec_GustsOf_l7 t2 t3 t4 t17 big t5 t15n t16 t18 b0).isSome
noncomputable def spec_GustsOf_l7_w0 (t2 : Int) (t3 : Nat) (t4 : Nat) (t17 : Nat) (t5 : Int) (t15n : Nat) (t16 : Nat) (t18 : Int) (b0 : List Nat) : Bool := oL (L_spec_GustsOf_l7 t2 t3 t4 t17 big t5 t15n t16 t18 b0)
noncomputable def spec_GustsOf_l7_a1_0 (t2 : Int) (t3 : Nat) (t4 : Nat) (t17 : Nat) (t5 : Int) (t15n : Nat) (t16 : Nat) (t18 : Int) (b0 : List Nat) : Int := ((tR (L_spec_GustsOf_l7 t2 t3 t4 t17 big t5 t15n t16 t18 b0)).getD default).1
noncomputable def spec_GustsOf_l7_a1_1 (t2 : Int) (t3 : Nat) (t4 : Nat) (t17 : Nat) (t5 : Int) (t15n : Nat) (t16 : Nat) (t18 : Int) (b0 : List Nat) : Nat := ((tR (L_spec_GustsOf_l7 t2 t3 t4 t17 big t5 t15n t16 t18 b0)).getD default).2.1
noncomputable def spec_GustsOf_l7_a1_2 (t2 : Int) (t3 : Nat) (t4 : Nat) (t17 : Nat) (t5 : Int) (t15n : Nat) (t16 : Nat) (t18 : Int) (b0 : List Nat) : Nat := ((tR (L_spec_GustsOf_l7 t2 t3 t4 t17 big t5 t15n t16 t18 b0)).getD default).2.2.1
noncomputable def spec_GustsOf_l7_a1_3 (t2 : Int) (t3 : Nat) (t4 : Nat) (t17 : Nat) (t5 : Int) (t15n : Nat) (t16 : Nat) (t18 : Int) (b0 : List Nat) : Int := ((tR (L_spec_GustsOf_l7 t2 t3 t4 t17 big t5 t15n t16 t18 b0)).getD default).2.2.2.1
noncomputable def spec_GustsOf_l7_a1_4 (t2 : Int) (t3 : Nat) (t4 : Nat) (t17 : Nat) (t5 : Int) (t15n : Nat) (t16 : Nat) (t18 : Int) (b0 : List Nat) : Bool := ((tR (L_spec_GustsOf_l7 t2 t3 t4 t17 big t5 t15n t16 t18 b0)).getD default).2.2.2.2.1
noncomputable def spec_GustsOf_l7_a1_5 (t2 : Int) (t3 : Nat) (t4 : Nat) (t17 : Nat) (t5 : Int) (t15n : Nat) (t16 : Nat) (t18 : Int) (b0 : List Nat) : List Nat := ((tR (L_spec_GustsOf_l7 t2 t3 t4 t17 big t5 t15n t16 t18 b0)).getD default).2.2.2.2.2
theorem spec_GustsOf_l7_of0 {t2 : Int} {t3 : Nat} {t4 : Nat} {t17 : Nat} {t5 : Int} {t15n : Nat} {t16 : Nat} {t18 : Int} {b0 : List Nat} {m : Nat} {r : Unit} (hm : m = big) (h : L_spec_GustsOf_l7 t2 t3 t4 t17 m t5 t15n t16 t18 b0 = some (Sum.inl r)) : spec_GustsOf_l7_p t2 t3 t4 t17 t5 t15n t16 t18 b0 = true ∧ spec_GustsOf_l7_w0 t2 t3 t4 t17 t5 t15n t16 t18 b0 = true := by
  subst hm
  unfold spec_GustsOf_l7_p spec_GustsOf_l7_w0
  rw [h]
  exact ⟨rfl, rfl⟩
theorem spec_GustsOf_l7_of1 {t2 : Int} {t3 : Nat} {t4 : Nat} {t17 : Nat} {t5 : Int} {t15n : Nat} {t16 : Nat} {t18 : Int} {b0 : List Nat} {m : Nat} {r : Int × Nat × Nat × Int × Bool × (List Nat)} (hm : m = big) (h : L_spec_GustsOf_l7 t2 t3 t4 t17 m t5 t15n t16 t18 b0 = some (Sum.inr r)) : spec_GustsOf_l7_p t2 t3 t4 t17 t5 t15n t16 t18 b0 = true ∧ spec_GustsOf_l7_w0 t2 t3 t4 t17 t5 t15n t16 t18 b0 = false ∧ spec_GustsOf_l7_a1_0 t2 t3 t4 t17 t5 t15n t16 t18 b0 = r.1 ∧ spec_GustsOf_l7_a1_1 t2 t3 t4 t17 t5 t15n t16 t18 b0 = r.2.1 ∧ spec_GustsOf_l7_a1_2 t2 t3 t4 t17 t5 t15n t16 t18 b0 = r.2.2.1 ∧ spec_GustsOf_l7_a1_3 t2 t3 t4 t17 t5 t15n t16 t18 b0 = r.2.2.2.1 ∧ spec_GustsOf_l7_a1_4 t2 t3 t4 t17 t5 t15n t16 t18 b0 = r.2.2.2.2.1 ∧ spec_GustsOf_l7_a1_5 t2 t3 t4 t17 t5 t15n t16 t18 b0 = r.2.2.2.2.2 := by
  subst hm
  unfold spec_GustsOf_l7_p spec_GustsOf_l7_w0 spec_GustsOf_l7_a1_0 spec_GustsOf_l7_a1_1 spec_GustsOf_l7_a1_2 spec_GustsOf_l7_a1_3 spec_GustsOf_l7_a1_4 spec_GustsOf_l7_a1_5
  rw [h]
  exact ⟨rfl, rfl, rfl, rfl, rfl, rfl, rfl, rfl⟩
noncomputable def T_spec_GustsOf {R : Type} (toArray_Density : Nat) (toArray_Height : Nat) (toArray_Speed : Nat) (toArray_Shear : Nat) (x1 : Nat) (x2 : Int) (x3 : Nat) (x4 : Nat) (x5 : Int) (k_ : Nat → Int → Bool → (List Nat) → Option R) : Option R := (grd (spec_l04Is_p toArray_Density toArray_Height toArray_Speed toArray_Shear) (br (bnot (spec_l04Is_v0 toArray_Density toArray_Height toArray_Speed toArray_Shear)) (k_ 0 0 Bool.false []) (grd (spec_l02Least_p x1) (br (bnot (spec_l02Least_v0 x1)) (k_ 0 0 Bool.false []) (grd (spec_l00In_p x2 1 256) (br (bnot (spec_l00In_v0 x2 1 256)) (k_ 0 0 Bool.false []) (grd (spec_l02Least_p x3) (br (bnot (spec_l02Least_v0 x3)) (k_ 0 0 Bool.false []) (grd (spec_l04Share_p x4) (br (bnot (spec_l04Share_v0 x4)) (k_ 0 0 Bool.false []) (grd (spec_l04Seed_p x5) (br (bnot (spec_l04Seed_v0 x5)) (k_ 0 0 Bool.false []) (grd (spec_l04Speed_p toArray_Density toArray_Height toArray_Speed toArray_Shear x1) (grd (spec_GustsOf_l7_p x2 x3 x4 (spec_l04Speed_v0 toArray_Density toArray_Height toArray_Speed toArray_Shear x1) x5 0 0 0 []) (br (spec_GustsOf_l7_w0 x2 x3 x4 (spec_l04Speed_v0 toArray_Density toArray_Height toArray_Speed toArray_Shear x1) x5 0 0 0 []) (k_ 0 0 Bool.false []) (k_ (spec_GustsOf_l7_a1_1 x2 x3 x4 (spec_l04Speed_v0 toArray_Density toArray_Height toArray_Speed toArray_Shear x1) x5 0 0 0 []) (spec_GustsOf_l7_a1_0 x2 x3 x4 (spec_l04Speed_v0 toArray_Density toArray_Height toArray_Speed toArray_Shear x1) x5 0 0 0 []) Bool.true (spec_GustsOf_l7_a1_5 x2 x3 x4 (spec_l04Speed_v0 toArray_Density toArray_Height toArray_Speed toArray_Shear x1) x5 0 0 0 [])))))))))))))))))
noncomputable def F_spec_GustsOf (toArray_Density : Nat) (toArray_Height : Nat) (toArray_Speed : Nat) (toArray_Shear : Nat) (x1 : Nat) (x2 : Int) (x3 : Nat) (x4 : Nat) (x5 : Int) : Option (Nat × Int × Bool × (List Nat)) := T_spec_GustsOf toArray_Density toArray_Height toArray_Speed toArray_Shear x1 x2 x3 x4 x5 (fun c0_ c1_ c2_ c3_ => some (c0_, c1_, c2_, c3_))
theorem T_spec_GustsOf_nat {R R' : Type} (o : Option R → Option R') (h0 : o none = none) (toArray_Density : Nat) (toArray_Height : Nat) (toArray_Speed : Nat) (toArray_Shear : Nat) (x1 : Nat) (x2 : Int) (x3 : Nat) (x4 : Nat) (x5 : Int) (k_ : Nat → Int → Bool → (List Nat) → Option R) : T_spec_GustsOf toArray_Density toArray_Height toArray_Speed toArray_Shear x1 x2 x3 x4 x5 (fun c0_ c1_ c2_ c3_ => o (k_ c0_ c1_ c2_ c3_)) = o (T_spec_GustsOf toArray_Density toArray_Height toArray_Speed toArray_Shear x1 x2 x3 x4 x5 k_) := by
  unfold T_spec_GustsOf
  repeat (first | refine grd_out h0 ?_ | refine br_out ?_ ?_ | rfl | exact h0.symm)
noncomputable def spec_GustsOf_p (toArray_Density : Nat) (toArray_Height : Nat) (toArray_Speed : Nat) (toArray_Shear : Nat) (x1 : Nat) (x2 : Int) (x3 : Nat) (x4 : Nat) (x5 : Int) : Bool := (F_spec_GustsOf toArray_Density toArray_Height toArray_Speed toArray_Shear x1 x2 x3 x4 x5).isSome
noncomputable def spec_GustsOf_v0 (toArray_Density : Nat) (toArray_Height : Nat) (toArray_Speed : Nat) (toArray_Shear : Nat) (x1 : Nat) (x2 : Int) (x3 : Nat) (x4 : Nat) (x5 : Int) : Nat := ((F_spec_GustsOf toArray_Density toArray_Height toArray_Speed toArray_Shear x1 x2 x3 x4 x5).getD default).1
noncomputable def spec_GustsOf_v1 (toArray_Density : Nat) (toArray_Height : Nat) (toArray_Speed : Nat) (toArray_Shear : Nat) (x1 : Nat) (x2 : Int) (x3 : Nat) (x4 : Nat) (x5 : Int) : Int := ((F_spec_GustsOf toArray_Density toArray_Height toArray_Speed toArray_Shear x1 x2 x3 x4 x5).getD default).2.1
noncomputable def spec_GustsOf_v2 (toArray_Density : Nat) (toArray_Height : Nat) (toArray_Speed : Nat) (toArray_Shear : Nat) (x1 : Nat) (x2 : Int) (x3 : Nat) (x4 : Nat) (x5 : Int) : Bool := ((F_spec_GustsOf toArray_Density toArray_Height toArray_Speed toArray_Shear x1 x2 x3 x4 x5).getD default).2.2.1
noncomputable def spec_GustsOf_v3 (toArray_Density : Nat) (toArray_Height : Nat) (toArray_Speed : Nat) (toArray_Shear : Nat) (x1 : Nat) (x2 : Int) (x3 : Nat) (x4 : Nat) (x5 : Int) : List Nat := ((F_spec_GustsOf toArray_Density toArray_Height toArray_Speed toArray_Shear x1 x2 x3 x4 x5).getD default).2.2.2
theorem spec_GustsOf_of {toArray_Density : Nat} {toArray_Height : Nat} {toArray_Speed : Nat} {toArray_Shear : Nat} {x1 : Nat} {x2 : Int} {x3 : Nat} {x4 : Nat} {x5 : Int} {r : Nat × Int × Bool × (List Nat)} (h : F_spec_GustsOf toArray_Density toArray_Height toArray_Speed toArray_Shear x1 x2 x3 x4 x5 = some r) : spec_GustsOf_p toArray_Density toArray_Height toArray_Speed toArray_Shear x1 x2 x3 x4 x5 = true ∧ spec_GustsOf_v0 toArray_Density toArray_Height toArray_Speed toArray_Shear x1 x2 x3 x4 x5 = r.1 ∧ spec_GustsOf_v1 toArray_Density toArray_Height toArray_Speed toArray_Shear x1 x2 x3 x4 x5 = r.2.1 ∧ spec_GustsOf_v2 toArray_Density toArray_Height toArray_Speed toArray_Shear x1 x2 x3 x4 x5 = r.2.2.1 ∧ spec_GustsOf_v3 toArray_Density toArray_Height toArray_Speed toArray_Shear x1 x2 x3 x4 x5 = r.2.2.2 := by
  unfold spec_GustsOf_p spec_GustsOf_v0 spec_GustsOf_v1 spec_GustsOf_v2 spec_GustsOf_v3
  rw [h]
  exact ⟨rfl, rfl, rfl, rfl, rfl⟩
noncomputable def T_slices_ContainsFunc_sf32_f32_areFinite_1 {R : Type} (s_n : Nat) (s : List Nat) (k_ : Bool → Option R) : Option R := (grd (slices_IndexFunc_sf32_f32_areFinite_1_p s_n (pF s 0 (muN s_n 1))) (k_ (leI 0 (slices_IndexFunc_sf32_f32_areFinite_1_v0 s_n (pF s 0 (muN s_n 1))))))
noncomputable def F_slices_ContainsFunc_sf32_f32_areFinite_1 (s_n : Nat) (s : List Nat) : Option (Bool) := T_slices_ContainsFunc_sf32_f32_areFinite_1 s_n s (fun c0_ => some c0_)
theorem T_slices_ContainsFunc_sf32_f32_areFinite_1_nat {R R' : Type} (o : Option R → Option R') (h0 : o none = none) (s_n : Nat) (s : List Nat) (k_ : Bool → Option R) : T_slices_ContainsFunc_sf32_f32_areFinite_1 s_n s (fun c0_ => o (k_ c0_)) = o (T_slices_ContainsFunc_sf32_f32_areFinite_1 s_n s k_) := by
  unfold T_slices_ContainsFunc_sf32_f32_areFinite_1
  repeat (first | refine grd_out h0 ?_ | refine br_out ?_ ?_ | rfl | exact h0.symm)
noncomputable def slices_ContainsFunc_sf32_f32_areFinite_1_p (s_n : Nat) (s : List Nat) : Bool := (F_slices_ContainsFunc_sf32_f32_areFinite_1 s_n s).isSome
noncomputable def slices_ContainsFunc_sf32_f32_areFinite_1_v0 (s_n : Nat) (s : List Nat) : Bool := ((F_slices_ContainsFunc_sf32_f32_areFinite_1 s_n s).getD default)
theorem slices_ContainsFunc_sf32_f32_areFinite_1_of {s_n : Nat} {s : List Nat} {r : Bool} (h : F_slices_ContainsFunc_sf32_f32_areFinite_1 s_n s = some r) : slices_ContainsFunc_sf32_f32_areFinite_1_p s_n s = true ∧ slices_ContainsFunc_sf32_f32_areFinite_1_v0 s_n s = r := by
  unfold slices_ContainsFunc_sf32_f32_areFinite_1_p slices_ContainsFunc_sf32_f32_areFinite_1_v0
  rw [h]
  exact ⟨rfl, rfl⟩
noncomputable def T_slices_ContainsFunc_sf32_f32_arePositive_1 {R : Type} (s_n : Nat) (s : List Nat) (k_ : Bool → Option R) : Option R := (grd (slices_IndexFunc_sf32_f32_arePositive_1_p s_n (pF s 0 (muN s_n 1))) (k_ (leI 0 (slices_IndexFunc_sf32_f32_arePositive_1_v0 s_n (pF s 0 (muN s_n 1))))))
noncomputable def F_slices_ContainsFunc_sf32_f32_arePositive_1 (s_n : Nat) (s : List Nat) : Option (Bool) := T_slices_ContainsFunc_sf32_f32_arePositive_1 s_n s (fun c0_ => some c0_)
theorem T_slices_ContainsFunc_sf32_f32_arePositive_1_nat {R R' : Type} (o : Option R → Option R') (h0 : o none = none) (s_n : Nat) (s : List Nat) (k_ : Bool → Option R) : T_slices_ContainsFunc_sf32_f32_arePositive_1 s_n s (fun c0_ => o (k_ c0_)) = o (T_slices_ContainsFunc_sf32_f32_arePositive_1 s_n s k_) := by
  unfold T_slices_ContainsFunc_sf32_f32_arePositive_1
  repeat (first | refine grd_out h0 ?_ | refine br_out ?_ ?_ | rfl | exact h0.symm)
noncomputable def slices_ContainsFunc_sf32_f32_arePositive_1_p (s_n : Nat) (s : List Nat) : Bool := (F_slices_ContainsFunc_sf32_f32_arePositive_1 s_n s).isSome
noncomputable def slices_ContainsFunc_sf32_f32_arePositive_1_v0 (s_n : Nat) (s : List Nat) : Bool := ((F_slices_ContainsFunc_sf32_f32_arePositive_1 s_n s).getD default)
theorem slices_ContainsFunc_sf32_f32_arePositive_1_of {s_n : Nat} {s : List Nat} {r : Bool} (h : F_slices_ContainsFunc_sf32_f32_arePositive_1 s_n s = some r) : slices_ContainsFunc_sf32_f32_arePositive_1_p s_n s = true ∧ slices_ContainsFunc_sf32_f32_arePositive_1_v0 s_n s = r := by
  unfold slices_ContainsFunc_sf32_f32_arePositive_1_p slices_ContainsFunc_sf32_f32_arePositive_1_v0
  rw [h]
  exact ⟨rfl, rfl⟩
noncomputable def T_impl_areFinite {R : Type} (list_n : Nat) (list : List Nat) (k_ : Bool → Option R) : Option R := (grd (slices_ContainsFunc_sf32_f32_areFinite_1_p list_n (pF list 0 (muN list_n 1))) (k_ (bnot (slices_ContainsFunc_sf32_f32_areFinite_1_v0 list_n (pF list 0 (muN list_n 1))))))
noncomputable def F_impl_areFinite (list_n : Nat) (list : List Nat) : Option (Bool) := T_impl_areFinite list_n list (fun c0_ => some c0_)
theorem T_impl_areFinite_nat {R R' : Type} (o : Option R → Option R') (h0 : o none = none) (list_n : Nat) (list : List Nat) (k_ : Bool → Option R) : T_impl_areFinite list_n list (fun c0_ => o (k_ c0_)) = o (T_impl_areFinite list_n list k_) := by
  unfold T_impl_areFinite
  repeat (first | refine grd_out h0 ?_ | refine br_out ?_ ?_ | rfl | exact h0.symm)
noncomputable def impl_areFinite_p (list_n : Nat) (list : List Nat) : Bool := (F_impl_areFinite list_n list).isSome
noncomputable def impl_areFinite_v0 (list_n : Nat) (list : List Nat) : Bool := ((F_impl_areFinite list_n list).getD default)
theorem impl_areFinite_of {list_n : Nat} {list : List Nat} {r : Bool} (h : F_impl_areFinite list_n list = some r) : impl_areFinite_p list_n list = true ∧ impl_areFinite_v0 list_n list = r := by
  unfold impl_areFinite_p impl_areFinite_v0
  rw [h]
  exact ⟨rfl, rfl⟩
noncomputable def T_impl_arePositive {R : Type} (list_n : Nat) (list : List Nat) (k_ : Bool → Option R) : Option R := (grd (slices_ContainsFunc_sf32_f32_arePositive_1_p list_n (pF list 0 (muN list_n 1))) (k_ (bnot (slices_ContainsFunc_sf32_f32_arePositive_1_v0 list_n (pF list 0 (muN list_n 1))))))
noncomputable def F_impl_arePositive (list_n : Nat) (list : List Nat) : Option (Bool) := T_impl_arePositive list_n list (fun c0_ => some c0_)
theorem T_impl_arePositive_nat {R R' : Type} (o : Option R → Option R') (h0 : o none = none) (list_n : Nat) (list : List Nat) (k_ : Bool → Option R) : T_impl_arePositive list_n list (fun c0_ => o (k_ c0_)) = o (T_impl_arePositive list_n list k_) := by
  unfold T_impl_arePositive
  repeat (first | refine grd_out h0 ?_ | refine br_out ?_ ?_ | rfl | exact h0.symm)
noncomputable def impl_arePositive_p (list_n : Nat) (list : List Nat) : Bool := (F_impl_arePositive list_n list).isSome
noncomputable def impl_arePositive_v0 (list_n : Nat) (list : List Nat) : Bool := ((F_impl_arePositive list_n list).getD default)
theorem impl_arePositive_of {list_n : Nat} {list : List Nat} {r : Bool} (h : F_impl_arePositive list_n list = some r) : impl_arePositive_p list_n list = true ∧ impl_arePositive_v0 list_n list = r := by
  unfold impl_arePositive_p impl_arePositive_v0
  rw [h]
  exact ⟨rfl, rfl⟩
noncomputable def T_impl_ValidAir {R : Type} (a_Density : Nat) (a_Height : Nat) (a_Speed : Nat) (a_Shear : Nat) (k_ : Bool → Option R) : Option R := (grd (impl_arePositive_p 2 (pF [a_Density, a_Height] 0 (muN 2 1))) (br (impl_arePositive_v0 2 (pF [a_Density, a_Height] 0 (muN 2 1))) (grd (impl_isLeast_p a_Speed) (br (impl_isLeast_v0 a_Speed) (grd (impl_isFromTo_p a_Shear 0 1065353216) (k_ (impl_isFromTo_v0 a_Shear 0 1065353216))) (k_ Bool.false))) (k_ Bool.false)))
noncomputable def F_impl_ValidAir (a_Density : Nat) (a_Height : Nat) (a_Speed : Nat) (a_Shear : Nat) : Option (Bool) := T_impl_ValidAir a_Density a_Height a_Speed a_Shear (fun c0_ => some c0_)
theorem T_impl_ValidAir_nat {R R' : Type} (o : Option R → Option R') (h0 : o none = none) (a_Density : Nat) (a_Height : Nat) (a_Speed : Nat) (a_Shear : Nat) (k_ : Bool → Option R) : T_impl_ValidAir a_Density a_Height a_Speed a_Shear (fun c0_ => o (k_ c0_)) = o (T_impl_ValidAir a_Density a_Height a_Speed a_Shear k_) := by
  unfold T_impl_ValidAir
  repeat (first | refine grd_out h0 ?_ | refine br_out ?_ ?_ | rfl | exact h0.symm)
noncomputable def impl_ValidAir_p (a_Density : Nat) (a_Height : Nat) (a_Speed : Nat) (a_Shear : Nat) : Bool := (F_impl_ValidAir a_Density a_Height a_Speed a_Shear).isSome
noncomputable def impl_ValidAir_v0 (a_Density : Nat) (a_Height : Nat) (a_Speed : Nat) (a_Shear : Nat) : Bool := ((F_impl_ValidAir a_Density a_Height a_Speed a_Shear).getD default)
theorem impl_ValidAir_of {a_Density : Nat} {a_Height : Nat} {a_Speed : Nat} {a_Shear : Nat} {r : Bool} (h : F_impl_ValidAir a_Density a_Height a_Speed a_Shear = some r) : impl_ValidAir_p a_Density a_Height a_Speed a_Shear = true ∧ impl_ValidAir_v0 a_Density a_Height a_Speed a_Shear = r := by
  unfold impl_ValidAir_p impl_ValidAir_v0
  rw [h]
  exact ⟨rfl, rfl⟩
noncomputable def T_impl_SpeedAtHeight {R : Type} (a_Density : Nat) (a_Height : Nat) (a_Speed : Nat) (a_Shear : Nat) (height : Nat) (k_ : Nat → Bool → Option R) : Option R := (grd (impl_ValidAir_p a_Density a_Height a_Speed a_Shear) (br (bnot (impl_ValidAir_v0 a_Density a_Height a_Speed a_Shear)) (k_ 0 Bool.false) (grd (impl_isLeast_p height) (br (bnot (impl_isLeast_v0 height)) (k_ 0 Bool.false) (grd (impl_checked_p (fop BinOp.mul FloatKind.f32 a_Speed (fop BinOp.add FloatKind.f32 1065353216 (fop BinOp.mul FloatKind.f32 a_Shear (fop BinOp.quo FloatKind.f32 (fop BinOp.sub FloatKind.f32 height a_Height) (fop BinOp.add FloatKind.f32 height a_Height)))))) (k_ (impl_checked_v0 (fop BinOp.mul FloatKind.f32 a_Speed (fop BinOp.add FloatKind.f32 1065353216 (fop BinOp.mul FloatKind.f32 a_Shear (fop BinOp.quo FloatKind.f32 (fop BinOp.sub FloatKind.f32 height a_Height) (fop BinOp.add FloatKind.f32 height a_Height)))))) (impl_checked_v1 (fop BinOp.mul FloatKind.f32 a_Speed (fop BinOp.add FloatKind.f32 1065353216 (fop BinOp.mul FloatKind.f32 a_Shear (fop BinOp.quo FloatKind.f32 (fop BinOp.sub FloatKind.f32 height a_Height) (fop BinOp.add FloatKind.f32 height a_Height))))))))))))
noncomputable def F_impl_SpeedAtHeight (a_Density : Nat) (a_Height : Nat) (a_Speed : Nat) (a_Shear : Nat) (height : Nat) : Option (Nat × Bool) := T_impl_SpeedAtHeight a_Density a_Height a_Speed a_Shear height (fun c0_ c1_ => some (c0_, c1_))
theorem T_impl_SpeedAtHeight_nat {R R' : Type} (o : Option R → Option R') (h0 : o none = none) (a_Density : Nat) (a_Height : Nat) (a_Speed : Nat) (a_Shear : Nat) (height : Nat) (k_ : Nat → Bool → Option R) : T_impl_SpeedAtHeight a_Density a_Height a_Speed a_Shear height (fun c0_ c1_ => o (k_ c0_ c1_)) = o (T_impl_SpeedAtHeight a_Density a_Height a_Speed a_Shear height k_) := by
  unfold T_impl_SpeedAtHeight
  repeat (first | refine grd_out h0 ?_ | refine br_out ?_ ?_ | rfl | exact h0.symm)
noncomputable def impl_SpeedAtHeight_p (a_Density : Nat) (a_Height : Nat) (a_Speed : Nat) (a_Shear : Nat) (height : Nat) : Bool := (F_impl_SpeedAtHeight a_Density a_Height a_Speed a_Shear height).isSome
noncomputable def impl_SpeedAtHeight_v0 (a_Density : Nat) (a_Height : Nat) (a_Speed : Nat) (a_Shear : Nat) (height : Nat) : Nat := ((F_impl_SpeedAtHeight a_Density a_Height a_Speed a_Shear height).getD default).1
noncomputable def impl_SpeedAtHeight_v1 (a_Density : Nat) (a_Height : Nat) (a_Speed : Nat) (a_Shear : Nat) (height : Nat) : Bool := ((F_impl_SpeedAtHeight a_Density a_Height a_Speed a_Shear height).getD default).2
theorem impl_SpeedAtHeight_of {a_Density : Nat} {a_Height : Nat} {a_Speed : Nat} {a_Shear : Nat} {height : Nat} {r : Nat × Bool} (h : F_impl_SpeedAtHeight a_Density a_Height a_Speed a_Shear height = some r) : impl_SpeedAtHeight_p a_Density a_Height a_Speed a_Shear height = true ∧ impl_SpeedAtHeight_v0 a_Density a_Height a_Speed a_Shear height = r.1 ∧ impl_SpeedAtHeight_v1 a_Density a_Height a_Speed a_Shear height = r.2 := by
  unfold impl_SpeedAtHeight_p impl_SpeedAtHeight_v0 impl_SpeedAtHeight_v1
  rw [h]
  exact ⟨rfl, rfl, rfl⟩
noncomputable def T_impl_GustsOf_l6 {R : Type} (t3 : Nat) (t4 : Nat) (t15 : Nat) (t50 : Int) (t5 : Int) (t17n : Nat) (t18 : Nat) (t51 : Int) (b0 : List Nat) (kn_ : Int → Nat → Nat → Int → (List Nat) → Option R) (k0_ : Int → Nat → Nat → Int → Bool → (List Nat) → Option R) : Option R := (br (ltI t51 t50) (grd (okNz 2147483648) (grd (okNz 65536) (br (bnot (fcmp BinOp.gtr FloatKind.f32 (fop BinOp.mul FloatKind.f32 t15 (fop BinOp.add FloatKind.f32 1065353216 (fop BinOp.add FloatKind.f32 (fop BinOp.mul FloatKind.f32 t4 t18) (fop BinOp.mul FloatKind.f32 t3 (fop BinOp.quo FloatKind.f32 (fOI FloatKind.f32 (subI IntKind.i64 (quoI IntKind.i64 (remI (addI IntKind.i64 (mulI IntKind.i64 1103515245 t5) 12345) 2147483648) 65536) 16384)) 1182793728))))) 0)) (grd (okA2 t17n 1 4 (nF (pF [0] 0 (muN 1 1))) (nF b0) 1) (kn_ (remI (addI IntKind.i64 (mulI IntKind.i64 1103515245 t5) 12345) 2147483648) (adN t17n 1) (fop BinOp.add FloatKind.f32 (fop BinOp.mul FloatKind.f32 t4 t18) (fop BinOp.mul FloatKind.f32 t3 (fop BinOp.quo FloatKind.f32 (fOI FloatKind.f32 (subI IntKind.i64 (quoI IntKind.i64 (remI (addI IntKind.i64 (mulI IntKind.i64 1103515245 t5) 12345) 2147483648) 65536) 16384)) 1182793728))) (addI IntKind.i64 t51 1) (aF b0 (pF [0] 0 (muN 1 1))))) (grd (okA2 t17n 1 4 (nF (pF [(fop BinOp.mul FloatKind.f32 t15 (fop BinOp.add FloatKind.f32 1065353216 (fop BinOp.add FloatKind.f32 (fop BinOp.mul FloatKind.f32 t4 t18) (fop BinOp.mul FloatKind.f32 t3 (fop BinOp.quo FloatKind.f32 (fOI FloatKind.f32 (subI IntKind.i64 (quoI IntKind.i64 (remI (addI IntKind.i64 (mulI IntKind.i64 1103515245 t5) 12345) 2147483648) 65536) 16384)) 1182793728)))))] 0 (muN 1 1))) (nF b0) 1) (kn_ (remI (addI IntKind.i64 (mulI IntKind.i64 1103515245 t5) 12345) 2147483648) (adN t17n 1) (fop BinOp.add FloatKind.f32 (fop BinOp.mul FloatKind.f32 t4 t18) (fop BinOp.mul FloatKind.f32 t3 (fop BinOp.quo FloatKind.f32 (fOI FloatKind.f32 (subI IntKind.i64 (quoI IntKind.i64 (remI (addI IntKind.i64 (mulI IntKind.i64 1103515245 t5) 12345) 2147483648) 65536) 16384)) 1182793728))) (addI IntKind.i64 t51 1) (aF b0 (pF [(fop BinOp.mul FloatKind.f32 t15 (fop BinOp.add FloatKind.f32 1065353216 (fop BinOp.add FloatKind.f32 (fop BinOp.mul FloatKind.f32 t4 t18) (fop BinOp.mul FloatKind.f32 t3 (fop BinOp.quo FloatKind.f32 (fOI FloatKind.f32 (subI IntKind.i64 (quoI IntKind.i64 (remI (addI IntKind.i64 (mulI IntKind.i64 1103515245 t5) 12345) 2147483648) 65536) 16384)) 1182793728)))))] 0 (muN 1 1)))))))) (k0_ t5 t17n t18 t51 (ltI t51 t50) b0))
theorem T_impl_GustsOf_l6_nat {R R' : Type} (o : Option R → Option R') (h0 : o none = none) (t3 : Nat) (t4 : Nat) (t15 : Nat) (t50 : Int) (t5 : Int) (t17n : Nat) (t18 : Nat) (t51 : Int) (b0 : List Nat) (kn_ : Int → Nat → Nat → Int → (List Nat) → Option R) (k0_ : Int → Nat → Nat → Int → Bool → (List Nat) → Option R) : T_impl_GustsOf_l6 t3 t4 t15 t50 t5 t17n t18 t51 b0 (fun t5' t17n' t18' t51' b0' => o (kn_ t5' t17n' t18' t51' b0')) (fun c0_ c1_ c2_ c3_ c4_ c5_ => o (k0_ c0_ c1_ c2_ c3_ c4_ c5_)) = o (T_impl_GustsOf_l6 t3 t4 t15 t50 t5 t17n t18 t51 b0 kn_ k0_) := by
  unfold T_impl_GustsOf_l6
  repeat (first | refine grd_out h0 ?_ | refine br_out ?_ ?_ | rfl | exact h0.symm)
noncomputable def L_impl_GustsOf_l6 (t3 : Nat) (t4 : Nat) (t15 : Nat) (t50 : Int) : Nat → Int → Nat → Nat → Int → (List Nat) → Option ((Int × Nat × Nat × Int × Bool × (List Nat)))
  | 0, _, _, _, _, _ => none
  | n + 1, t5, t17n, t18, t51, b0 => T_impl_GustsOf_l6 t3 t4 t15 t50  t5 t17n t18 t51 b0  (fun t5' t17n' t18' t51' b0' => L_impl_GustsOf_l6 t3 t4 t15 t50 n t5' t17n' t18' t51' b0') (fun c0_ c1_ c2_ c3_ c4_ c5_ => some (c0_, c1_, c2_, c3_, c4_, c5_))
theorem L_impl_GustsOf_l6_succ (t3 : Nat) (t4 : Nat) (t15 : Nat) (t50 : Int) (n : Nat) (t5 : Int) (t17n : Nat) (t18 : Nat) (t51 : Int) (b0 : List Nat) : L_impl_GustsOf_l6 t3 t4 t15 t50 (n + 1) t5 t17n t18 t51 b0 = T_impl_GustsOf_l6 t3 t4 t15 t50  t5 t17n t18 t51 b0  (fun t5' t17n' t18' t51' b0' => L_impl_GustsOf_l6 t3 t4 t15 t50 n t5' t17n' t18' t51' b0') (fun c0_ c1_ c2_ c3_ c4_ c5_ => some (c0_, c1_, c2_, c3_, c4_, c5_)) := rfl
noncomputable def impl_GustsOf_l6_p (t3 : Nat) (t4 : Nat) (t15 : Nat) (t50 : Int) (t5 : Int) (t17n : Nat) (t18 : Nat) (t51 : Int) (b0 : List Nat) : Bool := (L_impl_GustsOf_l6 t3 t4 t15 t50 big t5 t17n t18 t51 b0).isSome
noncomputable def impl_GustsOf_l6_a0_0 (t3 : Nat) (t4 : Nat) (t15 : Nat) (t50 : Int) (t5 : Int) (t17n : Nat) (t18 : Nat) (t51 : Int) (b0 : List Nat) : Int := ((L_impl_GustsOf_l6 t3 t4 t15 t50 big t5 t17n t18 t51 b0).getD default).1
noncomputable def impl_GustsOf_l6_a0_1 (t3 : Nat) (t4 : Nat) (t15 : Nat) (t50 : Int) (t5 : Int) (t17n : Nat) (t18 : Nat) (t51 : Int) (b0 : List Nat) : Nat := ((L_impl_GustsOf_l6 t3 t4 t15 t50 big t5 t17n t18 t51 b0).getD default).2.1
noncomputable def impl_GustsOf_l6_a0_2 (t3 : Nat) (t4 : Nat) (t15 : Nat) (t50 : Int) (t5 : Int) (t17n : Nat) (t18 : Nat) (t51 : Int) (b0 : List Nat) : Nat := ((L_impl_GustsOf_l6 t3 t4 t15 t50 big t5 t17n t18 t51 b0).getD default).2.2.1
noncomputable def impl_GustsOf_l6_a0_3 (t3 : Nat) (t4 : Nat) (t15 : Nat) (t50 : Int) (t5 : Int) (t17n : Nat) (t18 : Nat) (t51 : Int) (b0 : List Nat) : Int := ((L_impl_GustsOf_l6 t3 t4 t15 t50 big t5 t17n t18 t51 b0).getD default).2.2.2.1
noncomputable def impl_GustsOf_l6_a0_4 (t3 : Nat) (t4 : Nat) (t15 : Nat) (t50 : Int) (t5 : Int) (t17n : Nat) (t18 : Nat) (t51 : Int) (b0 : List Nat) : Bool := ((L_impl_GustsOf_l6 t3 t4 t15 t50 big t5 t17n t18 t51 b0).getD default).2.2.2.2.1
noncomputable def impl_GustsOf_l6_a0_5 (t3 : Nat) (t4 : Nat) (t15 : Nat) (t50 : Int) (t5 : Int) (t17n : Nat) (t18 : Nat) (t51 : Int) (b0 : List Nat) : List Nat := ((L_impl_GustsOf_l6 t3 t4 t15 t50 big t5 t17n t18 t51 b0).getD default).2.2.2.2.2
theorem impl_GustsOf_l6_of0 {t3 : Nat} {t4 : Nat} {t15 : Nat} {t50 : Int} {t5 : Int} {t17n : Nat} {t18 : Nat} {t51 : Int} {b0 : List Nat} {m : Nat} {r : Int × Nat × Nat × Int × Bool × (List Nat)} (hm : m = big) (h : L_impl_GustsOf_l6 t3 t4 t15 t50 m t5 t17n t18 t51 b0 = some r) : impl_GustsOf_l6_p t3 t4 t15 t50 t5 t17n t18 t51 b0 = true ∧ impl_GustsOf_l6_a0_0 t3 t4 t15 t50 t5 t17n t18 t51 b0 = r.1 ∧ impl_GustsOf_l6_a0_1 t3 t4 t15 t50 t5 t17n t18 t51 b0 = r.2.1 ∧ impl_GustsOf_l6_a0_2 t3 t4 t15 t50 t5 t17n t18 t51 b0 = r.2.2.1 ∧ impl_GustsOf_l6_a0_3 t3 t4 t15 t50 t5 t17n t18 t51 b0 = r.2.2.2.1 ∧ impl_GustsOf_l6_a0_4 t3 t4 t15 t50 t5 t17n t18 t51 b0 = r.2.2.2.2.1 ∧ impl_GustsOf_l6_a0_5 t3 t4 t15 t50 t5 t17n t18 t51 b0 = r.2.2.2.2.2 := by
  subst hm
  unfold impl_GustsOf_l6_p impl_GustsOf_l6_a0_0 impl_GustsOf_l6_a0_1 impl_GustsOf_l6_a0_2 impl_GustsOf_l6_a0_3 impl_GustsOf_l6_a0_4 impl_GustsOf_l6_a0_5
  rw [h]
  exact ⟨rfl, rfl, rfl, rfl, rfl, rfl, rfl⟩
noncomputable def T_impl_GustsOf {R : Type} (toArray_Density : Nat) (toArray_Height : Nat) (toArray_Speed : Nat) (toArray_Shear : Nat) (x1 : Nat) (x2 : Int) (x3 : Nat) (x4 : Nat) (x5 : Int) (k_ : Nat → Int → Bool → (List Nat) → Option R) : Option R := (grd (impl_SpeedAtHeight_p toArray_Density toArray_Height toArray_Speed toArray_Shear x1) (br (bnot (impl_SpeedAtHeight_v1 toArray_Density toArray_Height toArray_Speed toArray_Shear x1)) (k_ 0 0 Bool.false []) (grd (impl_within_p x2 1 256) (br (bnot (impl_within_v0 x2 1 256)) (k_ 0 0 Bool.false []) (grd (impl_isLeast_p x3) (br (bnot (impl_isLeast_v0 x3)) (k_ 0 0 Bool.false []) (grd (impl_isFromTo_p x4 0 1065353216) (br (bnot (impl_isFromTo_v0 x4 0 1065353216)) (k_ 0 0 Bool.false []) (grd (impl_within_p x5 0 2147483647) (br (bnot (impl_within_v0 x5 0 2147483647)) (k_ 0 0 Bool.false []) (grd (impl_GustsOf_l6_p x3 x4 (impl_SpeedAtHeight_v0 toArray_Density toArray_Height toArray_Speed toArray_Shear x1) x2 x5 0 0 0 []) (grd (impl_areFinite_p (impl_GustsOf_l6_a0_1 x3 x4 (impl_SpeedAtHeight_v0 toArray_Density toArray_Height toArray_Speed toArray_Shear x1) x2 x5 0 0 0 []) (pF (impl_GustsOf_l6_a0_5 x3 x4 (impl_SpeedAtHeight_v0 toArray_Density toArray_Height toArray_Speed toArray_Shear x1) x2 x5 0 0 0 []) 0 (muN (impl_GustsOf_l6_a0_1 x3 x4 (impl_SpeedAtHeight_v0 toArray_Density toArray_Height toArray_Speed toArray_Shear x1) x2 x5 0 0 0 []) 1))) (br (bnot (impl_areFinite_v0 (impl_GustsOf_l6_a0_1 x3 x4 (impl_SpeedAtHeight_v0 toArray_Density toArray_Height toArray_Speed toArray_Shear x1) x2 x5 0 0 0 []) (pF (impl_GustsOf_l6_a0_5 x3 x4 (impl_SpeedAtHeight_v0 toArray_Density toArray_Height toArray_Speed toArray_Shear x1) x2 x5 0 0 0 []) 0 (muN (impl_GustsOf_l6_a0_1 x3 x4 (impl_SpeedAtHeight_v0 toArray_Density toArray_Height toArray_Speed toArray_Shear x1) x2 x5 0 0 0 []) 1)))) (k_ 0 0 Bool.false []) (k_ (impl_GustsOf_l6_a0_1 x3 x4 (impl_SpeedAtHeight_v0 toArray_Density toArray_Height toArray_Speed toArray_Shear x1) x2 x5 0 0 0 []) (impl_GustsOf_l6_a0_0 x3 x4 (impl_SpeedAtHeight_v0 toArray_Density toArray_Height toArray_Speed toArray_Shear x1) x2 x5 0 0 0 []) Bool.true (impl_GustsOf_l6_a0_5 x3 x4 (impl_SpeedAtHeight_v0 toArray_Density toArray_Height toArray_Speed toArray_Shear x1) x2 x5 0 0 0 [])))))))))))))))
noncomputable def F_impl_GustsOf (toArray_Density : Nat) (toArray_Height : Nat) (toArray_Speed : Nat) (toArray_Shear : Nat) (x1 : Nat) (x2 : Int) (x3 : Nat) (x4 : Nat) (x5 : Int) : Option (Nat × Int × Bool × (List Nat)) := T_impl_GustsOf toArray_Density toArray_Height toArray_Speed toArray_Shear x1 x2 x3 x4 x5 (fun c0_ c1_ c2_ c3_ => some (c0_, c1_, c2_, c3_))
theorem T_impl_GustsOf_nat {R R' : Type} (o : Option R → Option R') (h0 : o none = none) (toArray_Density : Nat) (toArray_Height : Nat) (toArray_Speed : Nat) (toArray_Shear : Nat) (x1 : Nat) (x2 : Int) (x3 : Nat) (x4 : Nat) (x5 : Int) (k_ : Nat → Int → Bool → (List Nat) → Option R) : T_impl_GustsOf toArray_Density toArray_Height toArray_Speed toArray_Shear x1 x2 x3 x4 x5 (fun c0_ c1_ c2_ c3_ => o (k_ c0_ c1_ c2_ c3_)) = o (T_impl_GustsOf toArray_Density toArray_Height toArray_Speed toArray_Shear x1 x2 x3 x4 x5 k_) := by
  unfold T_impl_GustsOf
  repeat (first | refine grd_out h0 ?_ | refine br_out ?_ ?_ | rfl | exact h0.symm)
noncomputable def impl_GustsOf_p (toArray_Density : Nat) (toArray_Height : Nat) (toArray_Speed : Nat) (toArray_Shear : Nat) (x1 : Nat) (x2 : Int) (x3 : Nat) (x4 : Nat) (x5 : Int) : Bool := (F_impl_GustsOf toArray_Density toArray_Height toArray_Speed toArray_Shear x1 x2 x3 x4 x5).isSome
noncomputable def impl_GustsOf_v0 (toArray_Density : Nat) (toArray_Height : Nat) (toArray_Speed : Nat) (toArray_Shear : Nat) (x1 : Nat) (x2 : Int) (x3 : Nat) (x4 : Nat) (x5 : Int) : Nat := ((F_impl_GustsOf toArray_Density toArray_Height toArray_Speed toArray_Shear x1 x2 x3 x4 x5).getD default).1
noncomputable def impl_GustsOf_v1 (toArray_Density : Nat) (toArray_Height : Nat) (toArray_Speed : Nat) (toArray_Shear : Nat) (x1 : Nat) (x2 : Int) (x3 : Nat) (x4 : Nat) (x5 : Int) : Int := ((F_impl_GustsOf toArray_Density toArray_Height toArray_Speed toArray_Shear x1 x2 x3 x4 x5).getD default).2.1
noncomputable def impl_GustsOf_v2 (toArray_Density : Nat) (toArray_Height : Nat) (toArray_Speed : Nat) (toArray_Shear : Nat) (x1 : Nat) (x2 : Int) (x3 : Nat) (x4 : Nat) (x5 : Int) : Bool := ((F_impl_GustsOf toArray_Density toArray_Height toArray_Speed toArray_Shear x1 x2 x3 x4 x5).getD default).2.2.1
noncomputable def impl_GustsOf_v3 (toArray_Density : Nat) (toArray_Height : Nat) (toArray_Speed : Nat) (toArray_Shear : Nat) (x1 : Nat) (x2 : Int) (x3 : Nat) (x4 : Nat) (x5 : Int) : List Nat := ((F_impl_GustsOf toArray_Density toArray_Height toArray_Speed toArray_Shear x1 x2 x3 x4 x5).getD default).2.2.2
theorem impl_GustsOf_of {toArray_Density : Nat} {toArray_Height : Nat} {toArray_Speed : Nat} {toArray_Shear : Nat} {x1 : Nat} {x2 : Int} {x3 : Nat} {x4 : Nat} {x5 : Int} {r : Nat × Int × Bool × (List Nat)} (h : F_impl_GustsOf toArray_Density toArray_Height toArray_Speed toArray_Shear x1 x2 x3 x4 x5 = some r) : impl_GustsOf_p toArray_Density toArray_Height toArray_Speed toArray_Shear x1 x2 x3 x4 x5 = true ∧ impl_GustsOf_v0 toArray_Density toArray_Height toArray_Speed toArray_Shear x1 x2 x3 x4 x5 = r.1 ∧ impl_GustsOf_v1 toArray_Density toArray_Height toArray_Speed toArray_Shear x1 x2 x3 x4 x5 = r.2.1 ∧ impl_GustsOf_v2 toArray_Density toArray_Height toArray_Speed toArray_Shear x1 x2 x3 x4 x5 = r.2.2.1 ∧ impl_GustsOf_v3 toArray_Density toArray_Height toArray_Speed toArray_Shear x1 x2 x3 x4 x5 = r.2.2.2 := by
  unfold impl_GustsOf_p impl_GustsOf_v0 impl_GustsOf_v1 impl_GustsOf_v2 impl_GustsOf_v3
  rw [h]
  exact ⟨rfl, rfl, rfl, rfl, rfl⟩
noncomputable def T_laws_FnExactGustsOf__markFloat32S_l2 {R : Type} (an : Nat) (k : Int) (i : Int) (b2 : List Nat) (kn_ : Int → Int → (List Nat) → Option R) (k0_ : Int → Int → Bool → (List Nat) → Option R) : Option R := (br (ltI i (Int.ofNat an)) (grd (okIx i an) (kn_ (addI IntKind.i64 k 1) (addI IntKind.i64 i 1) (sF b2 (ixO 0 i 1) (fOI FloatKind.f32 k)))) (k0_ k i (ltI i (Int.ofNat an)) b2))
theorem T_laws_FnExactGustsOf__markFloat32S_l2_nat {R R' : Type} (o : Option R → Option R') (h0 : o none = none) (an : Nat) (k : Int) (i : Int) (b2 : List Nat) (kn_ : Int → Int → (List Nat) → Option R) (k0_ : Int → Int → Bool → (List Nat) → Option R) : T_laws_FnExactGustsOf__markFloat32S_l2 an k i b2 (fun k' i' b2' => o (kn_ k' i' b2')) (fun c0_ c1_ c2_ c3_ => o (k0_ c0_ c1_ c2_ c3_)) = o (T_laws_FnExactGustsOf__markFloat32S_l2 an k i b2 kn_ k0_) := by
  unfold T_laws_FnExactGustsOf__markFloat32S_l2
  repeat (first | refine grd_out h0 ?_ | refine br_out ?_ ?_ | rfl | exact h0.symm)
noncomputable def L_laws_FnExactGustsOf__markFloat32S_l2 (an : Nat) : Nat → Int → Int → (List Nat) → Option ((Int × Int × Bool × (List Nat)))
  | 0, _, _, _ => none
  | n + 1, k, i, b2 => T_laws_FnExactGustsOf__markFloat32S_l2 an  k i b2  (fun k' i' b2' => L_laws_FnExactGustsOf__markFloat32S_l2 an n k' i' b2') (fun c0_ c1_ c2_ c3_ => some (c0_, c1_, c2_, c3_))
theorem L_laws_FnExactGustsOf__markFloat32S_l2_succ (an : Nat) (n : Nat) (k : Int) (i : Int) (b2 : List Nat) : L_laws_FnExactGustsOf__markFloat32S_l2 an (n + 1) k i b2 = T_laws_FnExactGustsOf__markFloat32S_l2 an  k i b2  (fun k' i' b2' => L_laws_FnExactGustsOf__markFloat32S_l2 an n k' i' b2') (fun c0_ c1_ c2_ c3_ => some (c0_, c1_, c2_, c3_)) := rfl
noncomputable def laws_FnExactGustsOf__markFloat32S_l2_p (an : Nat) (k : Int) (i : Int) (b2 : List Nat) : Bool := (L_laws_FnExactGustsOf__markFloat32S_l2 an big k i b2).isSome
noncomputable def laws_FnExactGustsOf__markFloat32S_l2_a0_0 (an : Nat) (k : Int) (i : Int) (b2 : List Nat) : Int := ((L_laws_FnExactGustsOf__markFloat32S_l2 an big k i b2).getD default).1
noncomputable def laws_FnExactGustsOf__markFloat32S_l2_a0_1 (an : Nat) (k : Int) (i : Int) (b2 : List Nat) : Int := ((L_laws_FnExactGustsOf__markFloat32S_l2 an big k i b2).getD default).2.1
noncomputable def laws_FnExactGustsOf__markFloat32S_l2_a0_2 (an : Nat) (k : Int) (i : Int) (b2 : List Nat) : Bool := ((L_laws_FnExactGustsOf__markFloat32S_l2 an big k i b2).getD default).2.2.1
noncomputable def laws_FnExactGustsOf__markFloat32S_l2_a0_3 (an : Nat) (k : Int) (i : Int) (b2 : List Nat) : List Nat := ((L_laws_FnExactGustsOf__markFloat32S_l2 an big k i b2).getD default).2.2.2
theorem laws_FnExactGustsOf__markFloat32S_l2_of0 {an : Nat} {k : Int} {i : Int} {b2 : List Nat} {m : Nat} {r : Int × Int × Bool × (List Nat)} (hm : m = big) (h : L_laws_FnExactGustsOf__markFloat32S_l2 an m k i b2 = some r) : laws_FnExactGustsOf__markFloat32S_l2_p an k i b2 = true ∧ laws_FnExactGustsOf__markFloat32S_l2_a0_0 an k i b2 = r.1 ∧ laws_FnExactGustsOf__markFloat32S_l2_a0_1 an k i b2 = r.2.1 ∧ laws_FnExactGustsOf__markFloat32S_l2_a0_2 an k i b2 = r.2.2.1 ∧ laws_FnExactGustsOf__markFloat32S_l2_a0_3 an k i b2 = r.2.2.2 := by
  subst hm
  unfold laws_FnExactGustsOf__markFloat32S_l2_p laws_FnExactGustsOf__markFloat32S_l2_a0_0 laws_FnExactGustsOf__markFloat32S_l2_a0_1 laws_FnExactGustsOf__markFloat32S_l2_a0_2 laws_FnExactGustsOf__markFloat32S_l2_a0_3
  rw [h]
  exact ⟨rfl, rfl, rfl, rfl, rfl⟩
noncomputable def T_laws_FnExactGustsOf {R : Type} (toArray_Density : Nat) (toArray_Height : Nat) (toArray_Speed : Nat) (toArray_Shear : Nat) (x1 : Nat) (x2 : Int) (x3 : Nat) (x4 : Nat) (x5 : Int) (k_ : Bool → Option R) : Option R := (grd (laws_toAir_p toArray_Density toArray_Height toArray_Speed toArray_Shear) (grd (spec_GustsOf_p toArray_Density toArray_Height toArray_Speed toArray_Shear x1 x2 x3 x4 x5) (grd (laws_toAir_p toArray_Density toArray_Height toArray_Speed toArray_Shear) (grd (impl_GustsOf_p toArray_Density toArray_Height toArray_Speed toArray_Shear x1 x2 x3 x4 x5) (grd (laws_eqFloat32S_p (impl_GustsOf_v0 toArray_Density toArray_Height toArray_Speed toArray_Shear x1 x2 x3 x4 x5) (pF (impl_GustsOf_v3 toArray_Density toArray_Height toArray_Speed toArray_Shear x1 x2 x3 x4 x5) 0 (muN (impl_GustsOf_v0 toArray_Density toArray_Height toArray_Speed toArray_Shear x1 x2 x3 x4 x5) 1)) (spec_GustsOf_v0 toArray_Density toArray_Height toArray_Speed toArray_Shear x1 x2 x3 x4 x5) (pF (spec_GustsOf_v3 toArray_Density toArray_Height toArray_Speed toArray_Shear x1 x2 x3 x4 x5) 0 (muN (spec_GustsOf_v0 toArray_Density toArray_Height toArray_Speed toArray_Shear x1 x2 x3 x4 x5) 1))) (br (bnot (laws_eqFloat32S_v0 (impl_GustsOf_v0 toArray_Density toArray_Height toArray_Speed toArray_Shear x1 x2 x3 x4 x5) (pF (impl_GustsOf_v3 toArray_Density toArray_Height toArray_Speed toArray_Shear x1 x2 x3 x4 x5) 0 (muN (impl_GustsOf_v0 toArray_Density toArray_Height toArray_Speed toArray_Shear x1 x2 x3 x4 x5) 1)) (spec_GustsOf_v0 toArray_Density toArray_Height toArray_Speed toArray_Shear x1 x2 x3 x4 x5) (pF (spec_GustsOf_v3 toArray_Density toArray_Height toArray_Speed toArray_Shear x1 x2 x3 x4 x5) 0 (muN (spec_GustsOf_v0 toArray_Density toArray_Height toArray_Speed toArray_Shear x1 x2 x3 x4 x5) 1)))) (k_ Bool.false) (br (neI (impl_GustsOf_v1 toArray_Density toArray_Height toArray_Speed toArray_Shear x1 x2 x3 x4 x5) (spec_GustsOf_v1 toArray_Density toArray_Height toArray_Speed toArray_Shear x1 x2 x3 x4 x5)) (k_ Bool.false) (br (bnot (beqB (impl_GustsOf_v2 toArray_Density toArray_Height toArray_Speed toArray_Shear x1 x2 x3 x4 x5) (spec_GustsOf_v2 toArray_Density toArray_Height toArray_Speed toArray_Shear x1 x2 x3 x4 x5))) (k_ Bool.false) (grd (laws_FnExactGustsOf__markFloat32S_l2_p (impl_GustsOf_v0 toArray_Density toArray_Height toArray_Speed toArray_Shear x1 x2 x3 x4 x5) 1 0 (impl_GustsOf_v3 toArray_Density toArray_Height toArray_Speed toArray_Shear x1 x2 x3 x4 x5)) (grd (laws_heldFloat32S_p (impl_GustsOf_v0 toArray_Density toArray_Height toArray_Speed toArray_Shear x1 x2 x3 x4 x5) (pF (laws_FnExactGustsOf__markFloat32S_l2_a0_3 (impl_GustsOf_v0 toArray_Density toArray_Height toArray_Speed toArray_Shear x1 x2 x3 x4 x5) 1 0 (impl_GustsOf_v3 toArray_Density toArray_Height toArray_Speed toArray_Shear x1 x2 x3 x4 x5)) 0 (muN (impl_GustsOf_v0 toArray_Density toArray_Height toArray_Speed toArray_Shear x1 x2 x3 x4 x5) 1)) 1) (br (ltI (laws_heldFloat32S_v0 (impl_GustsOf_v0 toArray_Density toArray_Height toArray_Speed toArray_Shear x1 x2 x3 x4 x5) (pF (laws_FnExactGustsOf__markFloat32S_l2_a0_3 (impl_GustsOf_v0 toArray_Density toArray_Height toArray_Speed toArray_Shear x1 x2 x3 x4 x5) 1 0 (impl_GustsOf_v3 toArray_Density toArray_Height toArray_Speed toArray_Shear x1 x2 x3 x4 x5)) 0 (muN (impl_GustsOf_v0 toArray_Density toArray_Height toArray_Speed toArray_Shear x1 x2 x3 x4 x5) 1)) 1) 0) (k_ Bool.false) (br (neI (laws_heldFloat32S_v0 (impl_GustsOf_v0 toArray_Density toArray_Height toArray_Speed toArray_Shear x1 x2 x3 x4 x5) (pF (laws_FnExactGustsOf__markFloat32S_l2_a0_3 (impl_GustsOf_v0 toArray_Density toArray_Height toArray_Speed toArray_Shear x1 x2 x3 x4 x5) 1 0 (impl_GustsOf_v3 toArray_Density toArray_Height toArray_Speed toArray_Shear x1 x2 x3 x4 x5)) 0 (muN (impl_GustsOf_v0 toArray_Density toArray_Height toArray_Speed toArray_Shear x1 x2 x3 x4 x5) 1)) 1) (laws_FnExactGustsOf__markFloat32S_l2_a0_0 (impl_GustsOf_v0 toArray_Density toArray_Height toArray_Speed toArray_Shear x1 x2 x3 x4 x5) 1 0 (impl_GustsOf_v3 toArray_Density toArray_Height toArray_Speed toArray_Shear x1 x2 x3 x4 x5))) (k_ Bool.false) (grd (laws_toAir_p toArray_Density toArray_Height toArray_Speed toArray_Shear) (grd (impl_GustsOf_p toArray_Density toArray_Height toArray_Speed toArray_Shear x1 x2 x3 x4 x5) (grd (laws_eqFloat32S_p (impl_GustsOf_v0 toArray_Density toArray_Height toArray_Speed toArray_Shear x1 x2 x3 x4 x5) (pF (impl_GustsOf_v3 toArray_Density toArray_Height toArray_Speed toArray_Shear x1 x2 x3 x4 x5) 0 (muN (impl_GustsOf_v0 toArray_Density toArray_Height toArray_Speed toArray_Shear x1 x2 x3 x4 x5) 1)) (spec_GustsOf_v0 toArray_Density toArray_Height toArray_Speed toArray_Shear x1 x2 x3 x4 x5) (pF (spec_GustsOf_v3 toArray_Density toArray_Height toArray_Speed toArray_Shear x1 x2 x3 x4 x5) 0 (muN (spec_GustsOf_v0 toArray_Density toArray_Height toArray_Speed toArray_Shear x1 x2 x3 x4 x5) 1))) (br (bnot (laws_eqFloat32S_v0 (impl_GustsOf_v0 toArray_Density toArray_Height toArray_Speed toArray_Shear x1 x2 x3 x4 x5) (pF (impl_GustsOf_v3 toArray_Density toArray_Height toArray_Speed toArray_Shear x1 x2 x3 x4 x5) 0 (muN (impl_GustsOf_v0 toArray_Density toArray_Height toArray_Speed toArray_Shear x1 x2 x3 x4 x5) 1)) (spec_GustsOf_v0 toArray_Density toArray_Height toArray_Speed toArray_Shear x1 x2 x3 x4 x5) (pF (spec_GustsOf_v3 toArray_Density toArray_Height toArray_Speed toArray_Shear x1 x2 x3 x4 x5) 0 (muN (spec_GustsOf_v0 toArray_Density toArray_Height toArray_Speed toArray_Shear x1 x2 x3 x4 x5) 1)))) (k_ Bool.false) (br (neI (impl_GustsOf_v1 toArray_Density toArray_Height toArray_Speed toArray_Shear x1 x2 x3 x4 x5) (spec_GustsOf_v1 toArray_Density toArray_Height toArray_Speed toArray_Shear x1 x2 x3 x4 x5)) (k_ Bool.false) (br (bnot (beqB (impl_GustsOf_v2 toArray_Density toArray_Height toArray_Speed toArray_Shear x1 x2 x3 x4 x5) (spec_GustsOf_v2 toArray_Density toArray_Height toArray_Speed toArray_Shear x1 x2 x3 x4 x5))) (k_ Bool.false) (grd (laws_heldFloat32S_p (impl_GustsOf_v0 toArray_Density toArray_Height toArray_Speed toArray_Shear x1 x2 x3 x4 x5) (pF (laws_FnExactGustsOf__markFloat32S_l2_a0_3 (impl_GustsOf_v0 toArray_Density toArray_Height toArray_Speed toArray_Shear x1 x2 x3 x4 x5) 1 0 (impl_GustsOf_v3 toArray_Density toArray_Height toArray_Speed toArray_Shear x1 x2 x3 x4 x5)) 0 (muN (impl_GustsOf_v0 toArray_Density toArray_Height toArray_Speed toArray_Shear x1 x2 x3 x4 x5) 1)) 1) (br (ltI (laws_heldFloat32S_v0 (impl_GustsOf_v0 toArray_Density toArray_Height toArray_Speed toArray_Shear x1 x2 x3 x4 x5) (pF (laws_FnExactGustsOf__markFloat32S_l2_a0_3 (impl_GustsOf_v0 toArray_Density toArray_Height toArray_Speed toArray_Shear x1 x2 x3 x4 x5) 1 0 (impl_GustsOf_v3 toArray_Density toArray_Height toArray_Speed toArray_Shear x1 x2 x3 x4 x5)) 0 (muN (impl_GustsOf_v0 toArray_Density toArray_Height toArray_Speed toArray_Shear x1 x2 x3 x4 x5) 1)) 1) 0) (k_ Bool.false) (br (neI (laws_heldFloat32S_v0 (impl_GustsOf_v0 toArray_Density toArray_Height toArray_Speed toArray_Shear x1 x2 x3 x4 x5) (pF (laws_FnExactGustsOf__markFloat32S_l2_a0_3 (impl_GustsOf_v0 toArray_Density toArray_Height toArray_Speed toArray_Shear x1 x2 x3 x4 x5) 1 0 (impl_GustsOf_v3 toArray_Density toArray_Height toArray_Speed toArray_Shear x1 x2 x3 x4 x5)) 0 (muN (impl_GustsOf_v0 toArray_Density toArray_Height toArray_Speed toArray_Shear x1 x2 x3 x4 x5) 1)) 1) (laws_FnExactGustsOf__markFloat32S_l2_a0_0 (impl_GustsOf_v0 toArray_Density toArray_Height toArray_Speed toArray_Shear x1 x2 x3 x4 x5) 1 0 (impl_GustsOf_v3 toArray_Density toArray_Height toArray_Speed toArray_Shear x1 x2 x3 x4 x5))) (k_ Bool.false) (k_ Bool.true))))))))))))))))))))))
noncomputable def F_laws_FnExactGustsOf (toArray_Density : Nat) (toArray_Height : Nat) (toArray_Speed : Nat) (toArray_Shear : Nat) (x1 : Nat) (x2 : Int) (x3 : Nat) (x4 : Nat) (x5 : Int) : Option (Bool) := T_laws_FnExactGustsOf toArray_Density toArray_Height toArray_Speed toArray_Shear x1 x2 x3 x4 x5 (fun c0_ => some c0_)
theorem T_laws_FnExactGustsOf_nat {R R' : Type} (o : Option R → Option R') (h0 : o none = none) (toArray_Density : Nat) (toArray_Height : Nat) (toArray_Speed : Nat) (toArray_Shear : Nat) (x1 : Nat) (x2 : Int) (x3 : Nat) (x4 : Nat) (x5 : Int) (k_ : Bool → Option R) : T_laws_FnExactGustsOf toArray_Density toArray_Height toArray_Speed toArray_Shear x1 x2 x3 x4 x5 (fun c0_ => o (k_ c0_)) = o (T_laws_FnExactGustsOf toArray_Density toArray_Height toArray_Speed toArray_Shear x1 x2 x3 x4 x5 k_) := by
  unfold T_laws_FnExactGustsOf
  repeat (first | refine grd_out h0 ?_ | refine br_out ?_ ?_ | rfl | exact h0.symm)
noncomputable def laws_FnExactGustsOf_p (toArray_Density : Nat) (toArray_Height : Nat) (toArray_Speed : Nat) (toArray_Shear : Nat) (x1 : Nat) (x2 : Int) (x3 : Nat) (x4 : Nat) (x5 : Int) : Bool := (F_laws_FnExactGustsOf toArray_Density toArray_Height toArray_Speed toArray_Shear x1 x2 x3 x4 x5).isSome
noncomputable def laws_FnExactGustsOf_v0 (toArray_Density : Nat) (toArray_Height : Nat) (toArray_Speed : Nat) (toArray_Shear : Nat) (x1 : Nat) (x2 : Int) (x3 : Nat) (x4 : Nat) (x5 : Int) : Bool := ((F_laws_FnExactGustsOf toArray_Density toArray_Height toArray_Speed toArray_Shear x1 x2 x3 x4 x5).getD default)
theorem laws_FnExactGustsOf_of {toArray_Density : Nat} {toArray_Height : Nat} {toArray_Speed : Nat} {toArray_Shear : Nat} {x1 : Nat} {x2 : Int} {x3 : Nat} {x4 : Nat} {x5 : Int} {r : Bool} (h : F_laws_FnExactGustsOf toArray_Density toArray_Height toArray_Speed toArray_Shear x1 x2 x3 x4 x5 = some r) : laws_FnExactGustsOf_p toArray_Density toArray_Height toArray_Speed toArray_Shear x1 x2 x3 x4 x5 = true ∧ laws_FnExactGustsOf_v0 toArray_Density toArray_Height toArray_Speed toArray_Shear x1 x2 x3 x4 x5 = r := by
  unfold laws_FnExactGustsOf_p laws_FnExactGustsOf_v0
  rw [h]
  exact ⟨rfl, rfl⟩
end Go.Rf
