/-
  What functions answer, as plain functions. Printed by a program.
-/
import Derived.Test.YtohhkgieggfpeaaP4
set_option linter.unusedVariables false
set_option maxRecDepth 100000
set_option maxHeartbeats 4000000
namespace Go.Rf
open Go
noncomputable def F_laws_FnExactSameAir (aA_Density : Nat) (aA_Height : Nat) (aA_Speed : Nat) (aA_Shear : Nat) (aB_Density : Nat) (aB_Height : Nat) (aB_Speed : Nat) (aB_Shear : Nat) : Option (Bool) := (grd (laws_toAir_p aA_Density aA_Height aA_Speed aA_Shear) (grd (laws_toAir_p aB_Density aB_Height aB_Speed aB_Shear) (grd (spec_SameAir_p aA_Density aA_Height aA_Speed aA_Shear aB_Density aB_Height aB_Speed aB_Shear) (grd (laws_toAir_p aA_Density aA_Height aA_Speed aA_Shear) (grd (laws_toAir_p aB_Density aB_Height aB_Speed aB_Shear) (grd (impl_SameAir_p aA_Density aA_Height aA_Speed aA_Shear aB_Density aB_Height aB_Speed aB_Shear) (br (bnot (beqB (impl_SameAir_v0 aA_Density aA_Height aA_Speed aA_Shear aB_Density aB_Height aB_Speed aB_Shear) (spec_SameAir_v0 aA_Density aA_Height aA_Speed aA_Shear aB_Density aB_Height aB_Speed aB_Shear))) (some Bool.false) (some Bool.true))))))))
noncomputable def laws_FnExactSameAir_p (aA_Density : Nat) (aA_Height : Nat) (aA_Speed : Nat) (aA_Shear : Nat) (aB_Density : Nat) (aB_Height : Nat) (aB_Speed : Nat) (aB_Shear : Nat) : Bool := (F_laws_FnExactSameAir aA_Density aA_Height aA_Speed aA_Shear aB_Density aB_Height aB_Speed aB_Shear).isSome
noncomputable def laws_FnExactSameAir_v0 (aA_Density : Nat) (aA_Height : Nat) (aA_Speed : Nat) (aA_Shear : Nat) (aB_Density : Nat) (aB_Height : Nat) (aB_Speed : Nat) (aB_Shear : Nat) : Bool := ((F_laws_FnExactSameAir aA_Density aA_Height aA_Speed aA_Shear aB_Density aB_Height aB_Speed aB_Shear).getD default)
theorem laws_FnExactSameAir_of {aA_Density : Nat} {aA_Height : Nat} {aA_Speed : Nat} {aA_Shear : Nat} {aB_Density : Nat} {aB_Height : Nat} {aB_Speed : Nat} {aB_Shear : Nat} {r : Bool} (h : F_laws_FnExactSameAir aA_Density aA_Height aA_Speed aA_Shear aB_Density aB_Height aB_Speed aB_Shear = some r) : laws_FnExactSameAir_p aA_Density aA_Height aA_Speed aA_Shear aB_Density aB_Height aB_Speed aB_Shear = true ∧ laws_FnExactSameAir_v0 aA_Density aA_Height aA_Speed aA_Shear aB_Density aB_Height aB_Speed aB_Shear = r := by
  unfold laws_FnExactSameAir_p laws_FnExactSameAir_v0
  rw [h]
  exact ⟨rfl, rfl⟩
noncomputable def F_laws_eqRose (a_Shares_n : Nat) (a_Shares : List Nat) (a_Speeds_n : Nat) (a_Speeds : List Nat) (b_Shares_n : Nat) (b_Shares : List Nat) (b_Speeds_n : Nat) (b_Speeds : List Nat) : Option (Bool) := (grd (laws_eqFloat32S_p a_Shares_n (pF a_Shares 0 (muN a_Shares_n 1)) b_Shares_n (pF b_Shares 0 (muN b_Shares_n 1))) (br (bnot (laws_eqFloat32S_v0 a_Shares_n (pF a_Shares 0 (muN a_Shares_n 1)) b_Shares_n (pF b_Shares 0 (muN b_Shares_n 1)))) (some Bool.false) (grd (laws_eqFloat32S_p a_Speeds_n (pF a_Speeds 0 (muN a_Speeds_n 1)) b_Speeds_n (pF b_Speeds 0 (muN b_Speeds_n 1))) (br (bnot (laws_eqFloat32S_v0 a_Speeds_n (pF a_Speeds 0 (muN a_Speeds_n 1)) b_Speeds_n (pF b_Speeds 0 (muN b_Speeds_n 1)))) (some Bool.false) (some Bool.true)))))
noncomputable def laws_eqRose_p (a_Shares_n : Nat) (a_Shares : List Nat) (a_Speeds_n : Nat) (a_Speeds : List Nat) (b_Shares_n : Nat) (b_Shares : List Nat) (b_Speeds_n : Nat) (b_Speeds : List Nat) : Bool := (F_laws_eqRose a_Shares_n a_Shares a_Speeds_n a_Speeds b_Shares_n b_Shares b_Speeds_n b_Speeds).isSome
noncomputable def laws_eqRose_v0 (a_Shares_n : Nat) (a_Shares : List Nat) (a_Speeds_n : Nat) (a_Speeds : List Nat) (b_Shares_n : Nat) (b_Shares : List Nat) (b_Speeds_n : Nat) (b_Speeds : List Nat) : Bool := ((F_laws_eqRose a_Shares_n a_Shares a_Speeds_n a_Speeds b_Shares_n b_Shares b_Speeds_n b_Speeds).getD default)
theorem laws_eqRose_of {a_Shares_n : Nat} {a_Shares : List Nat} {a_Speeds_n : Nat} {a_Speeds : List Nat} {b_Shares_n : Nat} {b_Shares : List Nat} {b_Speeds_n : Nat} {b_Speeds : List Nat} {r : Bool} (h : F_laws_eqRose a_Shares_n a_Shares a_Speeds_n a_Speeds b_Shares_n b_Shares b_Speeds_n b_Speeds = some r) : laws_eqRose_p a_Shares_n a_Shares a_Speeds_n a_Speeds b_Shares_n b_Shares b_Speeds_n b_Speeds = true ∧ laws_eqRose_v0 a_Shares_n a_Shares a_Speeds_n a_Speeds b_Shares_n b_Shares b_Speeds_n b_Speeds = r := by
  unfold laws_eqRose_p laws_eqRose_v0
  rw [h]
  exact ⟨rfl, rfl⟩
noncomputable def F_impl_arePositive (list_n : Nat) (list : List Nat) : Option (Bool) := (grd (slices_ContainsFunc_sf32_f32_arePositive_1_p list_n (pF list 0 (muN list_n 1))) (some (bnot (slices_ContainsFunc_sf32_f32_arePositive_1_v0 list_n (pF list 0 (muN list_n 1))))))
noncomputable def impl_arePositive_p (list_n : Nat) (list : List Nat) : Bool := (F_impl_arePositive list_n list).isSome
noncomputable def impl_arePositive_v0 (list_n : Nat) (list : List Nat) : Bool := ((F_impl_arePositive list_n list).getD default)
theorem impl_arePositive_of {list_n : Nat} {list : List Nat} {r : Bool} (h : F_impl_arePositive list_n list = some r) : impl_arePositive_p list_n list = true ∧ impl_arePositive_v0 list_n list = r := by
  unfold impl_arePositive_p impl_arePositive_v0
  rw [h]
  exact ⟨rfl, rfl⟩
noncomputable def F_impl_areLeast (list_n : Nat) (list : List Nat) : Option (Bool) := (grd (slices_ContainsFunc_sf32_f32_areLeast_1_p list_n (pF list 0 (muN list_n 1))) (some (bnot (slices_ContainsFunc_sf32_f32_areLeast_1_v0 list_n (pF list 0 (muN list_n 1))))))
noncomputable def impl_areLeast_p (list_n : Nat) (list : List Nat) : Bool := (F_impl_areLeast list_n list).isSome
noncomputable def impl_areLeast_v0 (list_n : Nat) (list : List Nat) : Bool := ((F_impl_areLeast list_n list).getD default)
theorem impl_areLeast_of {list_n : Nat} {list : List Nat} {r : Bool} (h : F_impl_areLeast list_n list = some r) : impl_areLeast_p list_n list = true ∧ impl_areLeast_v0 list_n list = r := by
  unfold impl_areLeast_p impl_areLeast_v0
  rw [h]
  exact ⟨rfl, rfl⟩
noncomputable def F_spec_l04Rose (r_Shares_n : Nat) (r_Shares : List Nat) (r_Speeds_n : Nat) (r_Speeds : List Nat) : Option (Bool) := (br (ltI (Int.ofNat r_Shares_n) 1) (some Bool.false) (br (ltI 16 (Int.ofNat r_Shares_n)) (some Bool.false) (br (neI (Int.ofNat r_Speeds_n) (Int.ofNat r_Shares_n)) (some Bool.false) (grd (spec_l04Rose_l5_p (Int.ofNat r_Shares_n) r_Shares r_Speeds r_Shares_n r_Speeds_n 0) (br (spec_l04Rose_l5_w0 (Int.ofNat r_Shares_n) r_Shares r_Speeds r_Shares_n r_Speeds_n 0) (some Bool.false) (some Bool.true))))))
noncomputable def spec_l04Rose_p (r_Shares_n : Nat) (r_Shares : List Nat) (r_Speeds_n : Nat) (r_Speeds : List Nat) : Bool := (F_spec_l04Rose r_Shares_n r_Shares r_Speeds_n r_Speeds).isSome
noncomputable def spec_l04Rose_v0 (r_Shares_n : Nat) (r_Shares : List Nat) (r_Speeds_n : Nat) (r_Speeds : List Nat) : Bool := ((F_spec_l04Rose r_Shares_n r_Shares r_Speeds_n r_Speeds).getD default)
theorem spec_l04Rose_of {r_Shares_n : Nat} {r_Shares : List Nat} {r_Speeds_n : Nat} {r_Speeds : List Nat} {r : Bool} (h : F_spec_l04Rose r_Shares_n r_Shares r_Speeds_n r_Speeds = some r) : spec_l04Rose_p r_Shares_n r_Shares r_Speeds_n r_Speeds = true ∧ spec_l04Rose_v0 r_Shares_n r_Shares r_Speeds_n r_Speeds = r := by
  unfold spec_l04Rose_p spec_l04Rose_v0
  rw [h]
  exact ⟨rfl, rfl⟩
end Go.Rf
