/-
  What functions answer, as plain functions. Printed by a program.
-/
import Derived.Test.YtohhkgieggfpeaaP5
set_option linter.unusedVariables false
set_option maxRecDepth 100000
set_option maxHeartbeats 4000000
namespace Go.Rf
open Go
noncomputable def F_impl_ValidAir (a_Density : Nat) (a_Height : Nat) (a_Speed : Nat) (a_Shear : Nat) : Option (Bool) := (grd (impl_arePositive_p 2 (pF [a_Density, a_Height] 0 (muN 2 1))) (br (impl_arePositive_v0 2 (pF [a_Density, a_Height] 0 (muN 2 1))) (grd (impl_isLeast_p a_Speed) (br (impl_isLeast_v0 a_Speed) (grd (impl_isFromTo_p a_Shear 0 1065353216) (some (impl_isFromTo_v0 a_Shear 0 1065353216))) (some Bool.false))) (some Bool.false)))
noncomputable def impl_ValidAir_p (a_Density : Nat) (a_Height : Nat) (a_Speed : Nat) (a_Shear : Nat) : Bool := (F_impl_ValidAir a_Density a_Height a_Speed a_Shear).isSome
noncomputable def impl_ValidAir_v0 (a_Density : Nat) (a_Height : Nat) (a_Speed : Nat) (a_Shear : Nat) : Bool := ((F_impl_ValidAir a_Density a_Height a_Speed a_Shear).getD default)
theorem impl_ValidAir_of {a_Density : Nat} {a_Height : Nat} {a_Speed : Nat} {a_Shear : Nat} {r : Bool} (h : F_impl_ValidAir a_Density a_Height a_Speed a_Shear = some r) : impl_ValidAir_p a_Density a_Height a_Speed a_Shear = true ∧ impl_ValidAir_v0 a_Density a_Height a_Speed a_Shear = r := by
  unfold impl_ValidAir_p impl_ValidAir_v0
  rw [h]
  exact ⟨rfl, rfl⟩
noncomputable def F_impl_AirPower (density : Nat) (speed : Nat) : Option (Nat × Bool) := (grd (impl_areLeast_p 2 (pF [density, speed] 0 (muN 2 1))) (br (bnot (impl_areLeast_v0 2 (pF [density, speed] 0 (muN 2 1)))) (some (0, Bool.false)) (grd (impl_checked_p (fop BinOp.mul FloatKind.f32 (fop BinOp.mul FloatKind.f32 (fop BinOp.mul FloatKind.f32 (fop BinOp.quo FloatKind.f32 density 1073741824) speed) speed) speed)) (some ((impl_checked_v0 (fop BinOp.mul FloatKind.f32 (fop BinOp.mul FloatKind.f32 (fop BinOp.mul FloatKind.f32 (fop BinOp.quo FloatKind.f32 density 1073741824) speed) speed) speed)), (impl_checked_v1 (fop BinOp.mul FloatKind.f32 (fop BinOp.mul FloatKind.f32 (fop BinOp.mul FloatKind.f32 (fop BinOp.quo FloatKind.f32 density 1073741824) speed) speed) speed)))))))
noncomputable def impl_AirPower_p (density : Nat) (speed : Nat) : Bool := (F_impl_AirPower density speed).isSome
noncomputable def impl_AirPower_v0 (density : Nat) (speed : Nat) : Nat := ((F_impl_AirPower density speed).getD default).1
noncomputable def impl_AirPower_v1 (density : Nat) (speed : Nat) : Bool := ((F_impl_AirPower density speed).getD default).2
theorem impl_AirPower_of {density : Nat} {speed : Nat} {r : Nat × Bool} (h : F_impl_AirPower density speed = some r) : impl_AirPower_p density speed = true ∧ impl_AirPower_v0 density speed = r.1 ∧ impl_AirPower_v1 density speed = r.2 := by
  unfold impl_AirPower_p impl_AirPower_v0 impl_AirPower_v1
  rw [h]
  exact ⟨rfl, rfl, rfl⟩
noncomputable def F_spec_ValidRose (r_Shares_n : Nat) (r_Shares : List Nat) (r_Speeds_n : Nat) (r_Speeds : List Nat) : Option (Bool) := (grd (spec_l04Rose_p r_Shares_n (pF r_Shares 0 (muN r_Shares_n 1)) r_Speeds_n (pF r_Speeds 0 (muN r_Speeds_n 1))) (some (spec_l04Rose_v0 r_Shares_n (pF r_Shares 0 (muN r_Shares_n 1)) r_Speeds_n (pF r_Speeds 0 (muN r_Speeds_n 1)))))
noncomputable def spec_ValidRose_p (r_Shares_n : Nat) (r_Shares : List Nat) (r_Speeds_n : Nat) (r_Speeds : List Nat) : Bool := (F_spec_ValidRose r_Shares_n r_Shares r_Speeds_n r_Speeds).isSome
noncomputable def spec_ValidRose_v0 (r_Shares_n : Nat) (r_Shares : List Nat) (r_Speeds_n : Nat) (r_Speeds : List Nat) : Bool := ((F_spec_ValidRose r_Shares_n r_Shares r_Speeds_n r_Speeds).getD default)
theorem spec_ValidRose_of {r_Shares_n : Nat} {r_Shares : List Nat} {r_Speeds_n : Nat} {r_Speeds : List Nat} {r : Bool} (h : F_spec_ValidRose r_Shares_n r_Shares r_Speeds_n r_Speeds = some r) : spec_ValidRose_p r_Shares_n r_Shares r_Speeds_n r_Speeds = true ∧ spec_ValidRose_v0 r_Shares_n r_Shares r_Speeds_n r_Speeds = r := by
  unfold spec_ValidRose_p spec_ValidRose_v0
  rw [h]
  exact ⟨rfl, rfl⟩
noncomputable def F_impl_ValidRose (r_Shares_n : Nat) (r_Shares : List Nat) (r_Speeds_n : Nat) (r_Speeds : List Nat) : Option (Bool) := (br (leI 1 (Int.ofNat r_Shares_n)) (br (leI (Int.ofNat r_Shares_n) 16) (br (eqI (Int.ofNat r_Speeds_n) (Int.ofNat r_Shares_n)) (grd (impl_areLeast_p r_Shares_n (pF r_Shares 0 (muN r_Shares_n 1))) (br (impl_areLeast_v0 r_Shares_n (pF r_Shares 0 (muN r_Shares_n 1))) (grd (impl_areLeast_p r_Speeds_n (pF r_Speeds 0 (muN r_Speeds_n 1))) (some (impl_areLeast_v0 r_Speeds_n (pF r_Speeds 0 (muN r_Speeds_n 1))))) (some Bool.false))) (some Bool.false)) (some Bool.false)) (some Bool.false))
noncomputable def impl_ValidRose_p (r_Shares_n : Nat) (r_Shares : List Nat) (r_Speeds_n : Nat) (r_Speeds : List Nat) : Bool := (F_impl_ValidRose r_Shares_n r_Shares r_Speeds_n r_Speeds).isSome
noncomputable def impl_ValidRose_v0 (r_Shares_n : Nat) (r_Shares : List Nat) (r_Speeds_n : Nat) (r_Speeds : List Nat) : Bool := ((F_impl_ValidRose r_Shares_n r_Shares r_Speeds_n r_Speeds).getD default)
theorem impl_ValidRose_of {r_Shares_n : Nat} {r_Shares : List Nat} {r_Speeds_n : Nat} {r_Speeds : List Nat} {r : Bool} (h : F_impl_ValidRose r_Shares_n r_Shares r_Speeds_n r_Speeds = some r) : impl_ValidRose_p r_Shares_n r_Shares r_Speeds_n r_Speeds = true ∧ impl_ValidRose_v0 r_Shares_n r_Shares r_Speeds_n r_Speeds = r := by
  unfold impl_ValidRose_p impl_ValidRose_v0
  rw [h]
  exact ⟨rfl, rfl⟩
end Go.Rf
