/-
  What functions answer, as plain functions. Printed by a program.
-/
import Derived.Test.YtohhkgieggfpeaaP2
set_option linter.unusedVariables false
set_option maxRecDepth 100000
set_option maxHeartbeats 4000000
namespace Go.Rf
open Go
noncomputable def F_impl_SameAir (a_Density : Nat) (a_Height : Nat) (a_Speed : Nat) (a_Shear : Nat) (b_Density : Nat) (b_Height : Nat) (b_Speed : Nat) (b_Shear : Nat) : Option (Bool) := (grd (impl_SameNumber_p a_Density b_Density) (br (impl_SameNumber_v0 a_Density b_Density) (grd (impl_SameNumber_p a_Height b_Height) (br (impl_SameNumber_v0 a_Height b_Height) (grd (impl_SameNumber_p a_Speed b_Speed) (br (impl_SameNumber_v0 a_Speed b_Speed) (grd (impl_SameNumber_p a_Shear b_Shear) (some (impl_SameNumber_v0 a_Shear b_Shear))) (some Bool.false))) (some Bool.false))) (some Bool.false)))
noncomputable def impl_SameAir_p (a_Density : Nat) (a_Height : Nat) (a_Speed : Nat) (a_Shear : Nat) (b_Density : Nat) (b_Height : Nat) (b_Speed : Nat) (b_Shear : Nat) : Bool := (F_impl_SameAir a_Density a_Height a_Speed a_Shear b_Density b_Height b_Speed b_Shear).isSome
noncomputable def impl_SameAir_v0 (a_Density : Nat) (a_Height : Nat) (a_Speed : Nat) (a_Shear : Nat) (b_Density : Nat) (b_Height : Nat) (b_Speed : Nat) (b_Shear : Nat) : Bool := ((F_impl_SameAir a_Density a_Height a_Speed a_Shear b_Density b_Height b_Speed b_Shear).getD default)
theorem impl_SameAir_of {a_Density : Nat} {a_Height : Nat} {a_Speed : Nat} {a_Shear : Nat} {b_Density : Nat} {b_Height : Nat} {b_Speed : Nat} {b_Shear : Nat} {r : Bool} (h : F_impl_SameAir a_Density a_Height a_Speed a_Shear b_Density b_Height b_Speed b_Shear = some r) : impl_SameAir_p a_Density a_Height a_Speed a_Shear b_Density b_Height b_Speed b_Shear = true ∧ impl_SameAir_v0 a_Density a_Height a_Speed a_Shear b_Density b_Height b_Speed b_Shear = r := by
  unfold impl_SameAir_p impl_SameAir_v0
  rw [h]
  exact ⟨rfl, rfl⟩
noncomputable def F_spec_AirPower (density : Nat) (speed : Nat) : Option (Nat × Bool) := (grd (spec_l02Least_p density) (br (bnot (spec_l02Least_v0 density)) (some (0, Bool.false)) (grd (spec_l02Least_p speed) (br (bnot (spec_l02Least_v0 speed)) (some (0, Bool.false)) (grd (spec_l04Power_p density speed) (grd (spec_l02Number_p (spec_l04Power_v0 density speed)) (some ((spec_l02Number_v0 (spec_l04Power_v0 density speed)), (spec_l02Number_v1 (spec_l04Power_v0 density speed))))))))))
noncomputable def spec_AirPower_p (density : Nat) (speed : Nat) : Bool := (F_spec_AirPower density speed).isSome
noncomputable def spec_AirPower_v0 (density : Nat) (speed : Nat) : Nat := ((F_spec_AirPower density speed).getD default).1
noncomputable def spec_AirPower_v1 (density : Nat) (speed : Nat) : Bool := ((F_spec_AirPower density speed).getD default).2
theorem spec_AirPower_of {density : Nat} {speed : Nat} {r : Nat × Bool} (h : F_spec_AirPower density speed = some r) : spec_AirPower_p density speed = true ∧ spec_AirPower_v0 density speed = r.1 ∧ spec_AirPower_v1 density speed = r.2 := by
  unfold spec_AirPower_p spec_AirPower_v0 spec_AirPower_v1
  rw [h]
  exact ⟨rfl, rfl, rfl⟩
noncomputable def F_spec_l04Same (a_Density : Nat) (a_Height : Nat) (a_Speed : Nat) (a_Shear : Nat) (b_Density : Nat) (b_Height : Nat) (b_Speed : Nat) (b_Shear : Nat) : Option (Bool) := (grd (spec_l01Same_p a_Density b_Density) (br (spec_l01Same_v0 a_Density b_Density) (grd (spec_l01Same_p a_Height b_Height) (br (spec_l01Same_v0 a_Height b_Height) (grd (spec_l01Same_p a_Speed b_Speed) (br (spec_l01Same_v0 a_Speed b_Speed) (grd (spec_l01Same_p a_Shear b_Shear) (some (spec_l01Same_v0 a_Shear b_Shear))) (some Bool.false))) (some Bool.false))) (some Bool.false)))
noncomputable def spec_l04Same_p (a_Density : Nat) (a_Height : Nat) (a_Speed : Nat) (a_Shear : Nat) (b_Density : Nat) (b_Height : Nat) (b_Speed : Nat) (b_Shear : Nat) : Bool := (F_spec_l04Same a_Density a_Height a_Speed a_Shear b_Density b_Height b_Speed b_Shear).isSome
noncomputable def spec_l04Same_v0 (a_Density : Nat) (a_Height : Nat) (a_Speed : Nat) (a_Shear : Nat) (b_Density : Nat) (b_Height : Nat) (b_Speed : Nat) (b_Shear : Nat) : Bool := ((F_spec_l04Same a_Density a_Height a_Speed a_Shear b_Density b_Height b_Speed b_Shear).getD default)
theorem spec_l04Same_of {a_Density : Nat} {a_Height : Nat} {a_Speed : Nat} {a_Shear : Nat} {b_Density : Nat} {b_Height : Nat} {b_Speed : Nat} {b_Shear : Nat} {r : Bool} (h : F_spec_l04Same a_Density a_Height a_Speed a_Shear b_Density b_Height b_Speed b_Shear = some r) : spec_l04Same_p a_Density a_Height a_Speed a_Shear b_Density b_Height b_Speed b_Shear = true ∧ spec_l04Same_v0 a_Density a_Height a_Speed a_Shear b_Density b_Height b_Speed b_Shear = r := by
  unfold spec_l04Same_p spec_l04Same_v0
  rw [h]
  exact ⟨rfl, rfl⟩
noncomputable def F_spec_l04Is (a_Density : Nat) (a_Height : Nat) (a_Speed : Nat) (a_Shear : Nat) : Option (Bool) := (grd (spec_l02Above_p a_Density) (br (spec_l02Above_v0 a_Density) (grd (spec_l02Above_p a_Height) (br (spec_l02Above_v0 a_Height) (grd (spec_l02Least_p a_Speed) (br (spec_l02Least_v0 a_Speed) (grd (spec_l04Share_p a_Shear) (some (spec_l04Share_v0 a_Shear))) (some Bool.false))) (some Bool.false))) (some Bool.false)))
noncomputable def spec_l04Is_p (a_Density : Nat) (a_Height : Nat) (a_Speed : Nat) (a_Shear : Nat) : Bool := (F_spec_l04Is a_Density a_Height a_Speed a_Shear).isSome
noncomputable def spec_l04Is_v0 (a_Density : Nat) (a_Height : Nat) (a_Speed : Nat) (a_Shear : Nat) : Bool := ((F_spec_l04Is a_Density a_Height a_Speed a_Shear).getD default)
theorem spec_l04Is_of {a_Density : Nat} {a_Height : Nat} {a_Speed : Nat} {a_Shear : Nat} {r : Bool} (h : F_spec_l04Is a_Density a_Height a_Speed a_Shear = some r) : spec_l04Is_p a_Density a_Height a_Speed a_Shear = true ∧ spec_l04Is_v0 a_Density a_Height a_Speed a_Shear = r := by
  unfold spec_l04Is_p spec_l04Is_v0
  rw [h]
  exact ⟨rfl, rfl⟩
noncomputable def F_laws_toFloat32S (a_n : Nat) (a : List Nat) : Option (Nat × (List Nat)) := (grd (okMk (Int.ofNat a_n) (Int.ofNat a_n) 4) (grd (laws_toFloat32S_l3_p a_n (toN (Int.ofNat a_n)) a 0 (rF (muN (toN (Int.ofNat a_n)) 1))) (some ((toN (Int.ofNat a_n)), (laws_toFloat32S_l3_a0_2 a_n (toN (Int.ofNat a_n)) a 0 (rF (muN (toN (Int.ofNat a_n)) 1)))))))
noncomputable def laws_toFloat32S_p (a_n : Nat) (a : List Nat) : Bool := (F_laws_toFloat32S a_n a).isSome
noncomputable def laws_toFloat32S_v0 (a_n : Nat) (a : List Nat) : Nat := ((F_laws_toFloat32S a_n a).getD default).1
noncomputable def laws_toFloat32S_v1 (a_n : Nat) (a : List Nat) : List Nat := ((F_laws_toFloat32S a_n a).getD default).2
theorem laws_toFloat32S_of {a_n : Nat} {a : List Nat} {r : Nat × (List Nat)} (h : F_laws_toFloat32S a_n a = some r) : laws_toFloat32S_p a_n a = true ∧ laws_toFloat32S_v0 a_n a = r.1 ∧ laws_toFloat32S_v1 a_n a = r.2 := by
  unfold laws_toFloat32S_p laws_toFloat32S_v0 laws_toFloat32S_v1
  rw [h]
  exact ⟨rfl, rfl, rfl⟩
noncomputable def F_impl_areLeast_1 (x : Nat) : Option (Bool) := (grd (impl_isLeast_p x) (some (bnot (impl_isLeast_v0 x))))
noncomputable def impl_areLeast_1_p (x : Nat) : Bool := (F_impl_areLeast_1 x).isSome
noncomputable def impl_areLeast_1_v0 (x : Nat) : Bool := ((F_impl_areLeast_1 x).getD default)
theorem impl_areLeast_1_of {x : Nat} {r : Bool} (h : F_impl_areLeast_1 x = some r) : impl_areLeast_1_p x = true ∧ impl_areLeast_1_v0 x = r := by
  unfold impl_areLeast_1_p impl_areLeast_1_v0
  rw [h]
  exact ⟨rfl, rfl⟩
noncomputable def F_slices_IndexFunc_sf32_f32_arePositive_1 (s_n : Nat) (s : List Nat) : Option (Int) := (grd (slices_IndexFunc_sf32_f32_arePositive_1_l2_p s_n (Int.ofNat s_n) s 0) (br (slices_IndexFunc_sf32_f32_arePositive_1_l2_w0 s_n (Int.ofNat s_n) s 0) (some (slices_IndexFunc_sf32_f32_arePositive_1_l2_a0_0 s_n (Int.ofNat s_n) s 0)) (some (Int.negSucc 0))))
noncomputable def slices_IndexFunc_sf32_f32_arePositive_1_p (s_n : Nat) (s : List Nat) : Bool := (F_slices_IndexFunc_sf32_f32_arePositive_1 s_n s).isSome
noncomputable def slices_IndexFunc_sf32_f32_arePositive_1_v0 (s_n : Nat) (s : List Nat) : Int := ((F_slices_IndexFunc_sf32_f32_arePositive_1 s_n s).getD default)
theorem slices_IndexFunc_sf32_f32_arePositive_1_of {s_n : Nat} {s : List Nat} {r : Int} (h : F_slices_IndexFunc_sf32_f32_arePositive_1 s_n s = some r) : slices_IndexFunc_sf32_f32_arePositive_1_p s_n s = true ∧ slices_IndexFunc_sf32_f32_arePositive_1_v0 s_n s = r := by
  unfold slices_IndexFunc_sf32_f32_arePositive_1_p slices_IndexFunc_sf32_f32_arePositive_1_v0
  rw [h]
  exact ⟨rfl, rfl⟩
noncomputable def F_slices_IndexFunc_sf32_f32_areLeast_1 (s_n : Nat) (s : List Nat) : Option (Int) := (grd (slices_IndexFunc_sf32_f32_areLeast_1_l2_p s_n (Int.ofNat s_n) s 0) (br (slices_IndexFunc_sf32_f32_areLeast_1_l2_w0 s_n (Int.ofNat s_n) s 0) (some (slices_IndexFunc_sf32_f32_areLeast_1_l2_a0_0 s_n (Int.ofNat s_n) s 0)) (some (Int.negSucc 0))))
noncomputable def slices_IndexFunc_sf32_f32_areLeast_1_p (s_n : Nat) (s : List Nat) : Bool := (F_slices_IndexFunc_sf32_f32_areLeast_1 s_n s).isSome
noncomputable def slices_IndexFunc_sf32_f32_areLeast_1_v0 (s_n : Nat) (s : List Nat) : Int := ((F_slices_IndexFunc_sf32_f32_areLeast_1 s_n s).getD default)
theorem slices_IndexFunc_sf32_f32_areLeast_1_of {s_n : Nat} {s : List Nat} {r : Int} (h : F_slices_IndexFunc_sf32_f32_areLeast_1 s_n s = some r) : slices_IndexFunc_sf32_f32_areLeast_1_p s_n s = true ∧ slices_IndexFunc_sf32_f32_areLeast_1_v0 s_n s = r := by
  unfold slices_IndexFunc_sf32_f32_areLeast_1_p slices_IndexFunc_sf32_f32_areLeast_1_v0
  rw [h]
  exact ⟨rfl, rfl⟩
noncomputable def L_laws_eqFloat32S_l4 (an : Nat) (bn : Nat) (b0 : List Nat) (b1 : List Nat) : Nat → Int → Option ((Unit) ⊕ (Int × Bool))
  | 0, _ => none
  | n + 1, i => (br (ltI i (Int.ofNat an)) (grd (okIx i an) (grd (okIx i bn) (grd (laws_sameFloat_p (fcvV FloatKind.f32 FloatKind.f64 (gF b0 (ixO 0 i 1))) (fcvV FloatKind.f32 FloatKind.f64 (gF b1 (ixO 0 i 1)))) (br (bnot (laws_sameFloat_v0 (fcvV FloatKind.f32 FloatKind.f64 (gF b0 (ixO 0 i 1))) (fcvV FloatKind.f32 FloatKind.f64 (gF b1 (ixO 0 i 1))))) (some (Sum.inl ())) (L_laws_eqFloat32S_l4 an bn b0 b1 n (addI IntKind.i64 i 1)))))) (some (Sum.inr (i, (ltI i (Int.ofNat an))))))
theorem L_laws_eqFloat32S_l4_succ (an : Nat) (bn : Nat) (b0 : List Nat) (b1 : List Nat) (n : Nat) (i : Int) : L_laws_eqFloat32S_l4 an bn b0 b1 (n + 1) i = (br (ltI i (Int.ofNat an)) (grd (okIx i an) (grd (okIx i bn) (grd (laws_sameFloat_p (fcvV FloatKind.f32 FloatKind.f64 (gF b0 (ixO 0 i 1))) (fcvV FloatKind.f32 FloatKind.f64 (gF b1 (ixO 0 i 1)))) (br (bnot (laws_sameFloat_v0 (fcvV FloatKind.f32 FloatKind.f64 (gF b0 (ixO 0 i 1))) (fcvV FloatKind.f32 FloatKind.f64 (gF b1 (ixO 0 i 1))))) (some (Sum.inl ())) (L_laws_eqFloat32S_l4 an bn b0 b1 n (addI IntKind.i64 i 1)))))) (some (Sum.inr (i, (ltI i (Int.ofNat an)))))) := rfl
noncomputable def laws_eqFloat32S_l4_p (an : Nat) (bn : Nat) (b0 : List Nat) (b1 : List Nat) (i : Int) : Bool := (L_laws_eqFloat32S_l4 an bn b0 b1 big i).isSome
noncomputable def laws_eqFloat32S_l4_w0 (an : Nat) (bn : Nat) (b0 : List Nat) (b1 : List Nat) (i : Int) : Bool := oL (L_laws_eqFloat32S_l4 an bn b0 b1 big i)
noncomputable def laws_eqFloat32S_l4_a1_0 (an : Nat) (bn : Nat) (b0 : List Nat) (b1 : List Nat) (i : Int) : Int := ((tR (L_laws_eqFloat32S_l4 an bn b0 b1 big i)).getD default).1
noncomputable def laws_eqFloat32S_l4_a1_1 (an : Nat) (bn : Nat) (b0 : List Nat) (b1 : List Nat) (i : Int) : Bool := ((tR (L_laws_eqFloat32S_l4 an bn b0 b1 big i)).getD default).2
theorem laws_eqFloat32S_l4_of0 {an : Nat} {bn : Nat} {b0 : List Nat} {b1 : List Nat} {i : Int} {m : Nat} {r : Unit} (hm : m = big) (h : L_laws_eqFloat32S_l4 an bn b0 b1 m i = some (Sum.inl r)) : laws_eqFloat32S_l4_p an bn b0 b1 i = true ∧ laws_eqFloat32S_l4_w0 an bn b0 b1 i = true := by
  subst hm
  unfold laws_eqFloat32S_l4_p laws_eqFloat32S_l4_w0
  rw [h]
  exact ⟨rfl, rfl⟩
theorem laws_eqFloat32S_l4_of1 {an : Nat} {bn : Nat} {b0 : List Nat} {b1 : List Nat} {i : Int} {m : Nat} {r : Int × Bool} (hm : m = big) (h : L_laws_eqFloat32S_l4 an bn b0 b1 m i = some (Sum.inr r)) : laws_eqFloat32S_l4_p an bn b0 b1 i = true ∧ laws_eqFloat32S_l4_w0 an bn b0 b1 i = false ∧ laws_eqFloat32S_l4_a1_0 an bn b0 b1 i = r.1 ∧ laws_eqFloat32S_l4_a1_1 an bn b0 b1 i = r.2 := by
  subst hm
  unfold laws_eqFloat32S_l4_p laws_eqFloat32S_l4_w0 laws_eqFloat32S_l4_a1_0 laws_eqFloat32S_l4_a1_1
  rw [h]
  exact ⟨rfl, rfl, rfl, rfl⟩
end Go.Rf
