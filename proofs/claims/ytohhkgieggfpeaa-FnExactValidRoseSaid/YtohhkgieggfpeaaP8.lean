/-
  What functions answer, as plain functions. Printed by a program.
-/
import Derived.Test.YtohhkgieggfpeaaP7
set_option linter.unusedVariables false
set_option maxRecDepth 100000
set_option maxHeartbeats 4000000
namespace Go.Rf
open Go
noncomputable def F_laws_FnExactDensityAtHeight (aA_Density : Nat) (aA_Height : Nat) (aA_Speed : Nat) (aA_Shear : Nat) (aHeight : Nat) : Option (Bool) := (grd (laws_toAir_p aA_Density aA_Height aA_Speed aA_Shear) (grd (spec_DensityAtHeight_p aA_Density aA_Height aA_Speed aA_Shear aHeight) (grd (laws_toAir_p aA_Density aA_Height aA_Speed aA_Shear) (grd (impl_DensityAtHeight_p aA_Density aA_Height aA_Speed aA_Shear aHeight) (grd (laws_sameFloat_p (fcvV FloatKind.f32 FloatKind.f64 (impl_DensityAtHeight_v0 aA_Density aA_Height aA_Speed aA_Shear aHeight)) (fcvV FloatKind.f32 FloatKind.f64 (spec_DensityAtHeight_v0 aA_Density aA_Height aA_Speed aA_Shear aHeight))) (br (bnot (laws_sameFloat_v0 (fcvV FloatKind.f32 FloatKind.f64 (impl_DensityAtHeight_v0 aA_Density aA_Height aA_Speed aA_Shear aHeight)) (fcvV FloatKind.f32 FloatKind.f64 (spec_DensityAtHeight_v0 aA_Density aA_Height aA_Speed aA_Shear aHeight)))) (some Bool.false) (br (bnot (beqB (impl_DensityAtHeight_v1 aA_Density aA_Height aA_Speed aA_Shear aHeight) (spec_DensityAtHeight_v1 aA_Density aA_Height aA_Speed aA_Shear aHeight))) (some Bool.false) (some Bool.true))))))))
noncomputable def laws_FnExactDensityAtHeight_p (aA_Density : Nat) (aA_Height : Nat) (aA_Speed : Nat) (aA_Shear : Nat) (aHeight : Nat) : Bool := (F_laws_FnExactDensityAtHeight aA_Density aA_Height aA_Speed aA_Shear aHeight).isSome
noncomputable def laws_FnExactDensityAtHeight_v0 (aA_Density : Nat) (aA_Height : Nat) (aA_Speed : Nat) (aA_Shear : Nat) (aHeight : Nat) : Bool := ((F_laws_FnExactDensityAtHeight aA_Density aA_Height aA_Speed aA_Shear aHeight).getD default)
theorem laws_FnExactDensityAtHeight_of {aA_Density : Nat} {aA_Height : Nat} {aA_Speed : Nat} {aA_Shear : Nat} {aHeight : Nat} {r : Bool} (h : F_laws_FnExactDensityAtHeight aA_Density aA_Height aA_Speed aA_Shear aHeight = some r) : laws_FnExactDensityAtHeight_p aA_Density aA_Height aA_Speed aA_Shear aHeight = true ∧ laws_FnExactDensityAtHeight_v0 aA_Density aA_Height aA_Speed aA_Shear aHeight = r := by
  unfold laws_FnExactDensityAtHeight_p laws_FnExactDensityAtHeight_v0
  rw [h]
  exact ⟨rfl, rfl⟩
noncomputable def F_laws_FnExactSpeedAtHeight (aA_Density : Nat) (aA_Height : Nat) (aA_Speed : Nat) (aA_Shear : Nat) (aHeight : Nat) : Option (Bool) := (grd (laws_toAir_p aA_Density aA_Height aA_Speed aA_Shear) (grd (spec_SpeedAtHeight_p aA_Density aA_Height aA_Speed aA_Shear aHeight) (grd (laws_toAir_p aA_Density aA_Height aA_Speed aA_Shear) (grd (impl_SpeedAtHeight_p aA_Density aA_Height aA_Speed aA_Shear aHeight) (grd (laws_sameFloat_p (fcvV FloatKind.f32 FloatKind.f64 (impl_SpeedAtHeight_v0 aA_Density aA_Height aA_Speed aA_Shear aHeight)) (fcvV FloatKind.f32 FloatKind.f64 (spec_SpeedAtHeight_v0 aA_Density aA_Height aA_Speed aA_Shear aHeight))) (br (bnot (laws_sameFloat_v0 (fcvV FloatKind.f32 FloatKind.f64 (impl_SpeedAtHeight_v0 aA_Density aA_Height aA_Speed aA_Shear aHeight)) (fcvV FloatKind.f32 FloatKind.f64 (spec_SpeedAtHeight_v0 aA_Density aA_Height aA_Speed aA_Shear aHeight)))) (some Bool.false) (br (bnot (beqB (impl_SpeedAtHeight_v1 aA_Density aA_Height aA_Speed aA_Shear aHeight) (spec_SpeedAtHeight_v1 aA_Density aA_Height aA_Speed aA_Shear aHeight))) (some Bool.false) (some Bool.true))))))))
noncomputable def laws_FnExactSpeedAtHeight_p (aA_Density : Nat) (aA_Height : Nat) (aA_Speed : Nat) (aA_Shear : Nat) (aHeight : Nat) : Bool := (F_laws_FnExactSpeedAtHeight aA_Density aA_Height aA_Speed aA_Shear aHeight).isSome
noncomputable def laws_FnExactSpeedAtHeight_v0 (aA_Density : Nat) (aA_Height : Nat) (aA_Speed : Nat) (aA_Shear : Nat) (aHeight : Nat) : Bool := ((F_laws_FnExactSpeedAtHeight aA_Density aA_Height aA_Speed aA_Shear aHeight).getD default)
theorem laws_FnExactSpeedAtHeight_of {aA_Density : Nat} {aA_Height : Nat} {aA_Speed : Nat} {aA_Shear : Nat} {aHeight : Nat} {r : Bool} (h : F_laws_FnExactSpeedAtHeight aA_Density aA_Height aA_Speed aA_Shear aHeight = some r) : laws_FnExactSpeedAtHeight_p aA_Density aA_Height aA_Speed aA_Shear aHeight = true ∧ laws_FnExactSpeedAtHeight_v0 aA_Density aA_Height aA_Speed aA_Shear aHeight = r := by
  unfold laws_FnExactSpeedAtHeight_p laws_FnExactSpeedAtHeight_v0
  rw [h]
  exact ⟨rfl, rfl⟩
end Go.Rf
