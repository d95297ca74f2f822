/-
  What functions answer, as plain functions. Printed by a program.
-/
import Derived.Test.YtohhkgieggfpeaaP3
set_option linter.unusedVariables false
set_option maxRecDepth 100000
set_option maxHeartbeats 4000000
namespace Go.Rf
open Go
noncomputable def F_spec_SameAir (a_Density : Nat) (a_Height : Nat) (a_Speed : Nat) (a_Shear : Nat) (b_Density : Nat) (b_Height : Nat) (b_Speed : Nat) (b_Shear : Nat) : Option (Bool) := (grd (spec_l04Same_p a_Density a_Height a_Speed a_Shear b_Density b_Height b_Speed b_Shear) (some (spec_l04Same_v0 a_Density a_Height a_Speed a_Shear b_Density b_Height b_Speed b_Shear)))
noncomputable def spec_SameAir_p (a_Density : Nat) (a_Height : Nat) (a_Speed : Nat) (a_Shear : Nat) (b_Density : Nat) (b_Height : Nat) (b_Speed : Nat) (b_Shear : Nat) : Bool := (F_spec_SameAir a_Density a_Height a_Speed a_Shear b_Density b_Height b_Speed b_Shear).isSome
noncomputable def spec_SameAir_v0 (a_Density : Nat) (a_Height : Nat) (a_Speed : Nat) (a_Shear : Nat) (b_Density : Nat) (b_Height : Nat) (b_Speed : Nat) (b_Shear : Nat) : Bool := ((F_spec_SameAir a_Density a_Height a_Speed a_Shear b_Density b_Height b_Speed b_Shear).getD default)
theorem spec_SameAir_of {a_Density : Nat} {a_Height : Nat} {a_Speed : Nat} {a_Shear : Nat} {b_Density : Nat} {b_Height : Nat} {b_Speed : Nat} {b_Shear : Nat} {r : Bool} (h : F_spec_SameAir a_Density a_Height a_Speed a_Shear b_Density b_Height b_Speed b_Shear = some r) : spec_SameAir_p a_Density a_Height a_Speed a_Shear b_Density b_Height b_Speed b_Shear = true ∧ spec_SameAir_v0 a_Density a_Height a_Speed a_Shear b_Density b_Height b_Speed b_Shear = r := by
  unfold spec_SameAir_p spec_SameAir_v0
  rw [h]
  exact ⟨rfl, rfl⟩
noncomputable def F_spec_ValidAir (a_Density : Nat) (a_Height : Nat) (a_Speed : Nat) (a_Shear : Nat) : Option (Bool) := (grd (spec_l04Is_p a_Density a_Height a_Speed a_Shear) (some (spec_l04Is_v0 a_Density a_Height a_Speed a_Shear)))
noncomputable def spec_ValidAir_p (a_Density : Nat) (a_Height : Nat) (a_Speed : Nat) (a_Shear : Nat) : Bool := (F_spec_ValidAir a_Density a_Height a_Speed a_Shear).isSome
noncomputable def spec_ValidAir_v0 (a_Density : Nat) (a_Height : Nat) (a_Speed : Nat) (a_Shear : Nat) : Bool := ((F_spec_ValidAir a_Density a_Height a_Speed a_Shear).getD default)
theorem spec_ValidAir_of {a_Density : Nat} {a_Height : Nat} {a_Speed : Nat} {a_Shear : Nat} {r : Bool} (h : F_spec_ValidAir a_Density a_Height a_Speed a_Shear = some r) : spec_ValidAir_p a_Density a_Height a_Speed a_Shear = true ∧ spec_ValidAir_v0 a_Density a_Height a_Speed a_Shear = r := by
  unfold spec_ValidAir_p spec_ValidAir_v0
  rw [h]
  exact ⟨rfl, rfl⟩
noncomputable def F_spec_DensityAtHeight (a_Density : Nat) (a_Height : Nat) (a_Speed : Nat) (a_Shear : Nat) (height : Nat) : Option (Nat × Bool) := (grd (spec_l04Is_p a_Density a_Height a_Speed a_Shear) (br (bnot (spec_l04Is_v0 a_Density a_Height a_Speed a_Shear)) (some (0, Bool.false)) (grd (spec_l02Least_p height) (br (bnot (spec_l02Least_v0 height)) (some (0, Bool.false)) (grd (spec_l02Number_p (fop BinOp.quo FloatKind.f32 a_Density (fop BinOp.add FloatKind.f32 1065353216 (fop BinOp.quo FloatKind.f32 height 1174720512)))) (some ((spec_l02Number_v0 (fop BinOp.quo FloatKind.f32 a_Density (fop BinOp.add FloatKind.f32 1065353216 (fop BinOp.quo FloatKind.f32 height 1174720512)))), (spec_l02Number_v1 (fop BinOp.quo FloatKind.f32 a_Density (fop BinOp.add FloatKind.f32 1065353216 (fop BinOp.quo FloatKind.f32 height 1174720512)))))))))))
noncomputable def spec_DensityAtHeight_p (a_Density : Nat) (a_Height : Nat) (a_Speed : Nat) (a_Shear : Nat) (height : Nat) : Bool := (F_spec_DensityAtHeight a_Density a_Height a_Speed a_Shear height).isSome
noncomputable def spec_DensityAtHeight_v0 (a_Density : Nat) (a_Height : Nat) (a_Speed : Nat) (a_Shear : Nat) (height : Nat) : Nat := ((F_spec_DensityAtHeight a_Density a_Height a_Speed a_Shear height).getD default).1
noncomputable def spec_DensityAtHeight_v1 (a_Density : Nat) (a_Height : Nat) (a_Speed : Nat) (a_Shear : Nat) (height : Nat) : Bool := ((F_spec_DensityAtHeight a_Density a_Height a_Speed a_Shear height).getD default).2
theorem spec_DensityAtHeight_of {a_Density : Nat} {a_Height : Nat} {a_Speed : Nat} {a_Shear : Nat} {height : Nat} {r : Nat × Bool} (h : F_spec_DensityAtHeight a_Density a_Height a_Speed a_Shear height = some r) : spec_DensityAtHeight_p a_Density a_Height a_Speed a_Shear height = true ∧ spec_DensityAtHeight_v0 a_Density a_Height a_Speed a_Shear height = r.1 ∧ spec_DensityAtHeight_v1 a_Density a_Height a_Speed a_Shear height = r.2 := by
  unfold spec_DensityAtHeight_p spec_DensityAtHeight_v0 spec_DensityAtHeight_v1
  rw [h]
  exact ⟨rfl, rfl, rfl⟩
noncomputable def F_spec_SpeedAtHeight (a_Density : Nat) (a_Height : Nat) (a_Speed : Nat) (a_Shear : Nat) (height : Nat) : Option (Nat × Bool) := (grd (spec_l04Is_p a_Density a_Height a_Speed a_Shear) (br (bnot (spec_l04Is_v0 a_Density a_Height a_Speed a_Shear)) (some (0, Bool.false)) (grd (spec_l02Least_p height) (br (bnot (spec_l02Least_v0 height)) (some (0, Bool.false)) (grd (spec_l04Speed_p a_Density a_Height a_Speed a_Shear height) (grd (spec_l02Number_p (spec_l04Speed_v0 a_Density a_Height a_Speed a_Shear height)) (some ((spec_l02Number_v0 (spec_l04Speed_v0 a_Density a_Height a_Speed a_Shear height)), (spec_l02Number_v1 (spec_l04Speed_v0 a_Density a_Height a_Speed a_Shear height))))))))))
noncomputable def spec_SpeedAtHeight_p (a_Density : Nat) (a_Height : Nat) (a_Speed : Nat) (a_Shear : Nat) (height : Nat) : Bool := (F_spec_SpeedAtHeight a_Density a_Height a_Speed a_Shear height).isSome
noncomputable def spec_SpeedAtHeight_v0 (a_Density : Nat) (a_Height : Nat) (a_Speed : Nat) (a_Shear : Nat) (height : Nat) : Nat := ((F_spec_SpeedAtHeight a_Density a_Height a_Speed a_Shear height).getD default).1
noncomputable def spec_SpeedAtHeight_v1 (a_Density : Nat) (a_Height : Nat) (a_Speed : Nat) (a_Shear : Nat) (height : Nat) : Bool := ((F_spec_SpeedAtHeight a_Density a_Height a_Speed a_Shear height).getD default).2
theorem spec_SpeedAtHeight_of {a_Density : Nat} {a_Height : Nat} {a_Speed : Nat} {a_Shear : Nat} {height : Nat} {r : Nat × Bool} (h : F_spec_SpeedAtHeight a_Density a_Height a_Speed a_Shear height = some r) : spec_SpeedAtHeight_p a_Density a_Height a_Speed a_Shear height = true ∧ spec_SpeedAtHeight_v0 a_Density a_Height a_Speed a_Shear height = r.1 ∧ spec_SpeedAtHeight_v1 a_Density a_Height a_Speed a_Shear height = r.2 := by
  unfold spec_SpeedAtHeight_p spec_SpeedAtHeight_v0 spec_SpeedAtHeight_v1
  rw [h]
  exact ⟨rfl, rfl, rfl⟩
noncomputable def F_laws_toRose (a_Shares_n : Nat) (a_Shares : List Nat) (a_Speeds_n : Nat) (a_Speeds : List Nat) : Option (Nat × Nat × (List Nat) × (List Nat)) := (grd (laws_toFloat32S_p a_Shares_n (pF a_Shares 0 (muN a_Shares_n 1))) (grd (laws_toFloat32S_p a_Speeds_n (pF a_Speeds 0 (muN a_Speeds_n 1))) (some ((laws_toFloat32S_v0 a_Shares_n (pF a_Shares 0 (muN a_Shares_n 1))), (laws_toFloat32S_v0 a_Speeds_n (pF a_Speeds 0 (muN a_Speeds_n 1))), (laws_toFloat32S_v1 a_Shares_n (pF a_Shares 0 (muN a_Shares_n 1))), (laws_toFloat32S_v1 a_Speeds_n (pF a_Speeds 0 (muN a_Speeds_n 1)))))))
noncomputable def laws_toRose_p (a_Shares_n : Nat) (a_Shares : List Nat) (a_Speeds_n : Nat) (a_Speeds : List Nat) : Bool := (F_laws_toRose a_Shares_n a_Shares a_Speeds_n a_Speeds).isSome
noncomputable def laws_toRose_v0 (a_Shares_n : Nat) (a_Shares : List Nat) (a_Speeds_n : Nat) (a_Speeds : List Nat) : Nat := ((F_laws_toRose a_Shares_n a_Shares a_Speeds_n a_Speeds).getD default).1
noncomputable def laws_toRose_v1 (a_Shares_n : Nat) (a_Shares : List Nat) (a_Speeds_n : Nat) (a_Speeds : List Nat) : Nat := ((F_laws_toRose a_Shares_n a_Shares a_Speeds_n a_Speeds).getD default).2.1
noncomputable def laws_toRose_v2 (a_Shares_n : Nat) (a_Shares : List Nat) (a_Speeds_n : Nat) (a_Speeds : List Nat) : List Nat := ((F_laws_toRose a_Shares_n a_Shares a_Speeds_n a_Speeds).getD default).2.2.1
noncomputable def laws_toRose_v3 (a_Shares_n : Nat) (a_Shares : List Nat) (a_Speeds_n : Nat) (a_Speeds : List Nat) : List Nat := ((F_laws_toRose a_Shares_n a_Shares a_Speeds_n a_Speeds).getD default).2.2.2
theorem laws_toRose_of {a_Shares_n : Nat} {a_Shares : List Nat} {a_Speeds_n : Nat} {a_Speeds : List Nat} {r : Nat × Nat × (List Nat) × (List Nat)} (h : F_laws_toRose a_Shares_n a_Shares a_Speeds_n a_Speeds = some r) : laws_toRose_p a_Shares_n a_Shares a_Speeds_n a_Speeds = true ∧ laws_toRose_v0 a_Shares_n a_Shares a_Speeds_n a_Speeds = r.1 ∧ laws_toRose_v1 a_Shares_n a_Shares a_Speeds_n a_Speeds = r.2.1 ∧ laws_toRose_v2 a_Shares_n a_Shares a_Speeds_n a_Speeds = r.2.2.1 ∧ laws_toRose_v3 a_Shares_n a_Shares a_Speeds_n a_Speeds = r.2.2.2 := by
  unfold laws_toRose_p laws_toRose_v0 laws_toRose_v1 laws_toRose_v2 laws_toRose_v3
  rw [h]
  exact ⟨rfl, rfl, rfl, rfl, rfl⟩
noncomputable def F_laws_eqFloat32S (a_n : Nat) (a : List Nat) (b_n : Nat) (b : List Nat) : Option (Bool) := (br (neI (Int.ofNat a_n) (Int.ofNat b_n)) (some Bool.false) (grd (laws_eqFloat32S_l4_p a_n b_n a b 0) (br (laws_eqFloat32S_l4_w0 a_n b_n a b 0) (some Bool.false) (some Bool.true))))
noncomputable def laws_eqFloat32S_p (a_n : Nat) (a : List Nat) (b_n : Nat) (b : List Nat) : Bool := (F_laws_eqFloat32S a_n a b_n b).isSome
noncomputable def laws_eqFloat32S_v0 (a_n : Nat) (a : List Nat) (b_n : Nat) (b : List Nat) : Bool := ((F_laws_eqFloat32S a_n a b_n b).getD default)
theorem laws_eqFloat32S_of {a_n : Nat} {a : List Nat} {b_n : Nat} {b : List Nat} {r : Bool} (h : F_laws_eqFloat32S a_n a b_n b = some r) : laws_eqFloat32S_p a_n a b_n b = true ∧ laws_eqFloat32S_v0 a_n a b_n b = r := by
  unfold laws_eqFloat32S_p laws_eqFloat32S_v0
  rw [h]
  exact ⟨rfl, rfl⟩
noncomputable def F_slices_ContainsFunc_sf32_f32_arePositive_1 (s_n : Nat) (s : List Nat) : Option (Bool) := (grd (slices_IndexFunc_sf32_f32_arePositive_1_p s_n (pF s 0 (muN s_n 1))) (some (leI 0 (slices_IndexFunc_sf32_f32_arePositive_1_v0 s_n (pF s 0 (muN s_n 1))))))
noncomputable def slices_ContainsFunc_sf32_f32_arePositive_1_p (s_n : Nat) (s : List Nat) : Bool := (F_slices_ContainsFunc_sf32_f32_arePositive_1 s_n s).isSome
noncomputable def slices_ContainsFunc_sf32_f32_arePositive_1_v0 (s_n : Nat) (s : List Nat) : Bool := ((F_slices_ContainsFunc_sf32_f32_arePositive_1 s_n s).getD default)
theorem slices_ContainsFunc_sf32_f32_arePositive_1_of {s_n : Nat} {s : List Nat} {r : Bool} (h : F_slices_ContainsFunc_sf32_f32_arePositive_1 s_n s = some r) : slices_ContainsFunc_sf32_f32_arePositive_1_p s_n s = true ∧ slices_ContainsFunc_sf32_f32_arePositive_1_v0 s_n s = r := by
  unfold slices_ContainsFunc_sf32_f32_arePositive_1_p slices_ContainsFunc_sf32_f32_arePositive_1_v0
  rw [h]
  exact ⟨rfl, rfl⟩
noncomputable def F_slices_ContainsFunc_sf32_f32_areLeast_1 (s_n : Nat) (s : List Nat) : Option (Bool) := (grd (slices_IndexFunc_sf32_f32_areLeast_1_p s_n (pF s 0 (muN s_n 1))) (some (leI 0 (slices_IndexFunc_sf32_f32_areLeast_1_v0 s_n (pF s 0 (muN s_n 1))))))
noncomputable def slices_ContainsFunc_sf32_f32_areLeast_1_p (s_n : Nat) (s : List Nat) : Bool := (F_slices_ContainsFunc_sf32_f32_areLeast_1 s_n s).isSome
noncomputable def slices_ContainsFunc_sf32_f32_areLeast_1_v0 (s_n : Nat) (s : List Nat) : Bool := ((F_slices_ContainsFunc_sf32_f32_areLeast_1 s_n s).getD default)
theorem slices_ContainsFunc_sf32_f32_areLeast_1_of {s_n : Nat} {s : List Nat} {r : Bool} (h : F_slices_ContainsFunc_sf32_f32_areLeast_1 s_n s = some r) : slices_ContainsFunc_sf32_f32_areLeast_1_p s_n s = true ∧ slices_ContainsFunc_sf32_f32_areLeast_1_v0 s_n s = r := by
  unfold slices_ContainsFunc_sf32_f32_areLeast_1_p slices_ContainsFunc_sf32_f32_areLeast_1_v0
  rw [h]
  exact ⟨rfl, rfl⟩
noncomputable def L_spec_l04Rose_l5 (n_ : Int) (b0 : List Nat) (b1 : List Nat) (b2_0n : Nat) (b2_1n : Nat) : Nat → Int → Option ((Unit) ⊕ (Int × Bool))
  | 0, _ => none
  | n + 1, k => (br (ltI k n_) (grd (okIx k b2_0n) (grd (spec_l02Least_p (gF b0 (ixO 0 k 1))) (br (bnot (spec_l02Least_v0 (gF b0 (ixO 0 k 1)))) (some (Sum.inl ())) (grd (okIx k b2_1n) (grd (spec_l02Least_p (gF b1 (ixO 0 k 1))) (br (bnot (spec_l02Least_v0 (gF b1 (ixO 0 k 1)))) (some (Sum.inl ())) (L_spec_l04Rose_l5 n_ b0 b1 b2_0n b2_1n n (addI IntKind.i64 k 1)))))))) (some (Sum.inr (k, (ltI k n_)))))
theorem L_spec_l04Rose_l5_succ (n_ : Int) (b0 : List Nat) (b1 : List Nat) (b2_0n : Nat) (b2_1n : Nat) (n : Nat) (k : Int) : L_spec_l04Rose_l5 n_ b0 b1 b2_0n b2_1n (n + 1) k = (br (ltI k n_) (grd (okIx k b2_0n) (grd (spec_l02Least_p (gF b0 (ixO 0 k 1))) (br (bnot (spec_l02Least_v0 (gF b0 (ixO 0 k 1)))) (some (Sum.inl ())) (grd (okIx k b2_1n) (grd (spec_l02Least_p (gF b1 (ixO 0 k 1))) (br (bnot (spec_l02Least_v0 (gF b1 (ixO 0 k 1)))) (some (Sum.inl ())) (L_spec_l04Rose_l5 n_ b0 b1 b2_0n b2_1n n (addI IntKind.i64 k 1)))))))) (some (Sum.inr (k, (ltI k n_))))) := rfl
noncomputable def spec_l04Rose_l5_p (n_ : Int) (b0 : List Nat) (b1 : List Nat) (b2_0n : Nat) (b2_1n : Nat) (k : Int) : Bool := (L_spec_l04Rose_l5 n_ b0 b1 b2_0n b2_1n big k).isSome
noncomputable def spec_l04Rose_l5_w0 (n_ : Int) (b0 : List Nat) (b1 : List Nat) (b2_0n : Nat) (b2_1n : Nat) (k : Int) : Bool := oL (L_spec_l04Rose_l5 n_ b0 b1 b2_0n b2_1n big k)
noncomputable def spec_l04Rose_l5_a1_0 (n_ : Int) (b0 : List Nat) (b1 : List Nat) (b2_0n : Nat) (b2_1n : Nat) (k : Int) : Int := ((tR (L_spec_l04Rose_l5 n_ b0 b1 b2_0n b2_1n big k)).getD default).1
noncomputable def spec_l04Rose_l5_a1_1 (n_ : Int) (b0 : List Nat) (b1 : List Nat) (b2_0n : Nat) (b2_1n : Nat) (k : Int) : Bool := ((tR (L_spec_l04Rose_l5 n_ b0 b1 b2_0n b2_1n big k)).getD default).2
theorem spec_l04Rose_l5_of0 {n_ : Int} {b0 : List Nat} {b1 : List Nat} {b2_0n : Nat} {b2_1n : Nat} {k : Int} {m : Nat} {r : Unit} (hm : m = big) (h : L_spec_l04Rose_l5 n_ b0 b1 b2_0n b2_1n m k = some (Sum.inl r)) : spec_l04Rose_l5_p n_ b0 b1 b2_0n b2_1n k = true ∧ spec_l04Rose_l5_w0 n_ b0 b1 b2_0n b2_1n k = true := by
  subst hm
  unfold spec_l04Rose_l5_p spec_l04Rose_l5_w0
  rw [h]
  exact ⟨rfl, rfl⟩
theorem spec_l04Rose_l5_of1 {n_ : Int} {b0 : List Nat} {b1 : List Nat} {b2_0n : Nat} {b2_1n : Nat} {k : Int} {m : Nat} {r : Int × Bool} (hm : m = big) (h : L_spec_l04Rose_l5 n_ b0 b1 b2_0n b2_1n m k = some (Sum.inr r)) : spec_l04Rose_l5_p n_ b0 b1 b2_0n b2_1n k = true ∧ spec_l04Rose_l5_w0 n_ b0 b1 b2_0n b2_1n k = false ∧ spec_l04Rose_l5_a1_0 n_ b0 b1 b2_0n b2_1n k = r.1 ∧ spec_l04Rose_l5_a1_1 n_ b0 b1 b2_0n b2_1n k = r.2 := by
  subst hm
  unfold spec_l04Rose_l5_p spec_l04Rose_l5_w0 spec_l04Rose_l5_a1_0 spec_l04Rose_l5_a1_1
  rw [h]
  exact ⟨rfl, rfl, rfl, rfl⟩
end Go.Rf
