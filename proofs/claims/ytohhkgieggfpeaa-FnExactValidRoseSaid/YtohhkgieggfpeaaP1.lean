/-
  What functions answer, as plain functions. Printed by a program.
-/
import Derived.Test.YtohhkgieggfpeaaP0
set_option linter.unusedVariables false
set_option maxRecDepth 100000
set_option maxHeartbeats 4000000
namespace Go.Rf
open Go
noncomputable def F_laws_toAir (a_Density : Nat) (a_Height : Nat) (a_Speed : Nat) (a_Shear : Nat) : Option (Unit) := (some ())
noncomputable def laws_toAir_p (a_Density : Nat) (a_Height : Nat) (a_Speed : Nat) (a_Shear : Nat) : Bool := (F_laws_toAir a_Density a_Height a_Speed a_Shear).isSome
theorem laws_toAir_of {a_Density : Nat} {a_Height : Nat} {a_Speed : Nat} {a_Shear : Nat} {r : Unit} (h : F_laws_toAir a_Density a_Height a_Speed a_Shear = some r) : laws_toAir_p a_Density a_Height a_Speed a_Shear = true := by
  unfold laws_toAir_p
  rw [h]
  exact rfl
noncomputable def F_laws_sameFloat (a : Nat) (b : Nat) : Option (Bool) := (br (fcmp BinOp.neq FloatKind.f64 a a) (br (fcmp BinOp.neq FloatKind.f64 a a) (some (fcmp BinOp.neq FloatKind.f64 b b)) (some Bool.false)) (br (fcmp BinOp.neq FloatKind.f64 b b) (br (fcmp BinOp.neq FloatKind.f64 a a) (some (fcmp BinOp.neq FloatKind.f64 b b)) (some Bool.false)) (br (fcmp BinOp.eql FloatKind.f64 a 0) (br (fcmp BinOp.eql FloatKind.f64 b 0) (some (beqB (fcmp BinOp.gtr FloatKind.f64 (fop BinOp.quo FloatKind.f64 4607182418800017408 a) 0) (fcmp BinOp.gtr FloatKind.f64 (fop BinOp.quo FloatKind.f64 4607182418800017408 b) 0))) (some (fcmp BinOp.eql FloatKind.f64 a b))) (some (fcmp BinOp.eql FloatKind.f64 a b)))))
noncomputable def laws_sameFloat_p (a : Nat) (b : Nat) : Bool := (F_laws_sameFloat a b).isSome
noncomputable def laws_sameFloat_v0 (a : Nat) (b : Nat) : Bool := ((F_laws_sameFloat a b).getD default)
theorem laws_sameFloat_of {a : Nat} {b : Nat} {r : Bool} (h : F_laws_sameFloat a b = some r) : laws_sameFloat_p a b = true ∧ laws_sameFloat_v0 a b = r := by
  unfold laws_sameFloat_p laws_sameFloat_v0
  rw [h]
  exact ⟨rfl, rfl⟩
noncomputable def F_impl_isFromTo (x : Nat) (low : Nat) (high : Nat) : Option (Bool) := (br (fcmp BinOp.geq FloatKind.f32 x low) (some (fcmp BinOp.leq FloatKind.f32 x high)) (some Bool.false))
noncomputable def impl_isFromTo_p (x : Nat) (low : Nat) (high : Nat) : Bool := (F_impl_isFromTo x low high).isSome
noncomputable def impl_isFromTo_v0 (x : Nat) (low : Nat) (high : Nat) : Bool := ((F_impl_isFromTo x low high).getD default)
theorem impl_isFromTo_of {x : Nat} {low : Nat} {high : Nat} {r : Bool} (h : F_impl_isFromTo x low high = some r) : impl_isFromTo_p x low high = true ∧ impl_isFromTo_v0 x low high = r := by
  unfold impl_isFromTo_p impl_isFromTo_v0
  rw [h]
  exact ⟨rfl, rfl⟩
noncomputable def F_spec_l04Power (density : Nat) (speed : Nat) : Option (Nat) := (some (fop BinOp.mul FloatKind.f32 (fop BinOp.mul FloatKind.f32 (fop BinOp.mul FloatKind.f32 (fop BinOp.mul FloatKind.f32 1056964608 density) speed) speed) speed))
noncomputable def spec_l04Power_p (density : Nat) (speed : Nat) : Bool := (F_spec_l04Power density speed).isSome
noncomputable def spec_l04Power_v0 (density : Nat) (speed : Nat) : Nat := ((F_spec_l04Power density speed).getD default)
theorem spec_l04Power_of {density : Nat} {speed : Nat} {r : Nat} (h : F_spec_l04Power density speed = some r) : spec_l04Power_p density speed = true ∧ spec_l04Power_v0 density speed = r := by
  unfold spec_l04Power_p spec_l04Power_v0
  rw [h]
  exact ⟨rfl, rfl⟩
noncomputable def F_spec_l04Speed (a_Density : Nat) (a_Height : Nat) (a_Speed : Nat) (a_Shear : Nat) (z : Nat) : Option (Nat) := (some (fop BinOp.mul FloatKind.f32 a_Speed (fop BinOp.add FloatKind.f32 1065353216 (fop BinOp.mul FloatKind.f32 a_Shear (fop BinOp.quo FloatKind.f32 (fop BinOp.sub FloatKind.f32 z a_Height) (fop BinOp.add FloatKind.f32 z a_Height))))))
noncomputable def spec_l04Speed_p (a_Density : Nat) (a_Height : Nat) (a_Speed : Nat) (a_Shear : Nat) (z : Nat) : Bool := (F_spec_l04Speed a_Density a_Height a_Speed a_Shear z).isSome
noncomputable def spec_l04Speed_v0 (a_Density : Nat) (a_Height : Nat) (a_Speed : Nat) (a_Shear : Nat) (z : Nat) : Nat := ((F_spec_l04Speed a_Density a_Height a_Speed a_Shear z).getD default)
theorem spec_l04Speed_of {a_Density : Nat} {a_Height : Nat} {a_Speed : Nat} {a_Shear : Nat} {z : Nat} {r : Nat} (h : F_spec_l04Speed a_Density a_Height a_Speed a_Shear z = some r) : spec_l04Speed_p a_Density a_Height a_Speed a_Shear z = true ∧ spec_l04Speed_v0 a_Density a_Height a_Speed a_Shear z = r := by
  unfold spec_l04Speed_p spec_l04Speed_v0
  rw [h]
  exact ⟨rfl, rfl⟩
noncomputable def F_laws_szFloat32S (a_n : Nat) (a : List Nat) (left : Int) : Option (Int) := (br (ltI (subI IntKind.i64 left (Int.ofNat a_n)) 0) (some (Int.negSucc 0)) (some (subI IntKind.i64 left (Int.ofNat a_n))))
noncomputable def laws_szFloat32S_p (a_n : Nat) (a : List Nat) (left : Int) : Bool := (F_laws_szFloat32S a_n a left).isSome
noncomputable def laws_szFloat32S_v0 (a_n : Nat) (a : List Nat) (left : Int) : Int := ((F_laws_szFloat32S a_n a left).getD default)
theorem laws_szFloat32S_of {a_n : Nat} {a : List Nat} {left : Int} {r : Int} (h : F_laws_szFloat32S a_n a left = some r) : laws_szFloat32S_p a_n a left = true ∧ laws_szFloat32S_v0 a_n a left = r := by
  unfold laws_szFloat32S_p laws_szFloat32S_v0
  rw [h]
  exact ⟨rfl, rfl⟩
noncomputable def F_math_Signbit (x : Nat) : Option (Bool) := (grd (bnot (nanQ FloatKind.f64 x)) (some (ltI (cvI IntKind.i64 (Int.ofNat x)) 0)))
noncomputable def math_Signbit_p (x : Nat) : Bool := (F_math_Signbit x).isSome
noncomputable def math_Signbit_v0 (x : Nat) : Bool := ((F_math_Signbit x).getD default)
theorem math_Signbit_of {x : Nat} {r : Bool} (h : F_math_Signbit x = some r) : math_Signbit_p x = true ∧ math_Signbit_v0 x = r := by
  unfold math_Signbit_p math_Signbit_v0
  rw [h]
  exact ⟨rfl, rfl⟩
noncomputable def F_spec_l04Share (x : Nat) : Option (Bool) := (br (fcmp BinOp.geq FloatKind.f32 x 0) (some (fcmp BinOp.leq FloatKind.f32 x 1065353216)) (some Bool.false))
noncomputable def spec_l04Share_p (x : Nat) : Bool := (F_spec_l04Share x).isSome
noncomputable def spec_l04Share_v0 (x : Nat) : Bool := ((F_spec_l04Share x).getD default)
theorem spec_l04Share_of {x : Nat} {r : Bool} (h : F_spec_l04Share x = some r) : spec_l04Share_p x = true ∧ spec_l04Share_v0 x = r := by
  unfold spec_l04Share_p spec_l04Share_v0
  rw [h]
  exact ⟨rfl, rfl⟩
noncomputable def F_impl_IsFinite (x : Nat) : Option (Bool) := (some (fcmp BinOp.eql FloatKind.f32 (fop BinOp.sub FloatKind.f32 x x) 0))
noncomputable def impl_IsFinite_p (x : Nat) : Bool := (F_impl_IsFinite x).isSome
noncomputable def impl_IsFinite_v0 (x : Nat) : Bool := ((F_impl_IsFinite x).getD default)
theorem impl_IsFinite_of {x : Nat} {r : Bool} (h : F_impl_IsFinite x = some r) : impl_IsFinite_p x = true ∧ impl_IsFinite_v0 x = r := by
  unfold impl_IsFinite_p impl_IsFinite_v0
  rw [h]
  exact ⟨rfl, rfl⟩
noncomputable def F_spec_l01Finite (x : Nat) : Option (Bool) := (some (fcmp BinOp.eql FloatKind.f32 (fop BinOp.sub FloatKind.f32 x x) 0))
noncomputable def spec_l01Finite_p (x : Nat) : Bool := (F_spec_l01Finite x).isSome
noncomputable def spec_l01Finite_v0 (x : Nat) : Bool := ((F_spec_l01Finite x).getD default)
theorem spec_l01Finite_of {x : Nat} {r : Bool} (h : F_spec_l01Finite x = some r) : spec_l01Finite_p x = true ∧ spec_l01Finite_v0 x = r := by
  unfold spec_l01Finite_p spec_l01Finite_v0
  rw [h]
  exact ⟨rfl, rfl⟩
noncomputable def F_spec_l01Bits (x : Nat) : Option (Int) := (br (fcmp BinOp.neq FloatKind.f32 x x) (some 2143289344) (grd (bnot (nanQ FloatKind.f32 x)) (some (cvI IntKind.i64 (Int.ofNat x)))))
noncomputable def spec_l01Bits_p (x : Nat) : Bool := (F_spec_l01Bits x).isSome
noncomputable def spec_l01Bits_v0 (x : Nat) : Int := ((F_spec_l01Bits x).getD default)
theorem spec_l01Bits_of {x : Nat} {r : Int} (h : F_spec_l01Bits x = some r) : spec_l01Bits_p x = true ∧ spec_l01Bits_v0 x = r := by
  unfold spec_l01Bits_p spec_l01Bits_v0
  rw [h]
  exact ⟨rfl, rfl⟩
end Go.Rf
