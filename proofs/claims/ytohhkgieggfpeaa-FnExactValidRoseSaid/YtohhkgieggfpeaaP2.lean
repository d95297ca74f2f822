/-
  What functions answer, as plain functions. Printed by a program.
-/
import Derived.Test.YtohhkgieggfpeaaP1
set_option linter.unusedVariables false
set_option maxRecDepth 100000
set_option maxHeartbeats 4000000
namespace Go.Rf
open Go
noncomputable def F_laws_szRose (a_Shares_n : Nat) (a_Shares : List Nat) (a_Speeds_n : Nat) (a_Speeds : List Nat) (left : Int) : Option (Int) := (grd (laws_szFloat32S_p a_Shares_n (pF a_Shares 0 (muN a_Shares_n 1)) left) (br (ltI (laws_szFloat32S_v0 a_Shares_n (pF a_Shares 0 (muN a_Shares_n 1)) left) 0) (some (Int.negSucc 0)) (grd (laws_szFloat32S_p a_Speeds_n (pF a_Speeds 0 (muN a_Speeds_n 1)) (laws_szFloat32S_v0 a_Shares_n (pF a_Shares 0 (muN a_Shares_n 1)) left)) (br (ltI (laws_szFloat32S_v0 a_Speeds_n (pF a_Speeds 0 (muN a_Speeds_n 1)) (laws_szFloat32S_v0 a_Shares_n (pF a_Shares 0 (muN a_Shares_n 1)) left)) 0) (some (Int.negSucc 0)) (some (laws_szFloat32S_v0 a_Speeds_n (pF a_Speeds 0 (muN a_Speeds_n 1)) (laws_szFloat32S_v0 a_Shares_n (pF a_Shares 0 (muN a_Shares_n 1)) left)))))))
noncomputable def laws_szRose_p (a_Shares_n : Nat) (a_Shares : List Nat) (a_Speeds_n : Nat) (a_Speeds : List Nat) (left : Int) : Bool := (F_laws_szRose a_Shares_n a_Shares a_Speeds_n a_Speeds left).isSome
noncomputable def laws_szRose_v0 (a_Shares_n : Nat) (a_Shares : List Nat) (a_Speeds_n : Nat) (a_Speeds : List Nat) (left : Int) : Int := ((F_laws_szRose a_Shares_n a_Shares a_Speeds_n a_Speeds left).getD default)
theorem laws_szRose_of {a_Shares_n : Nat} {a_Shares : List Nat} {a_Speeds_n : Nat} {a_Speeds : List Nat} {left : Int} {r : Int} (h : F_laws_szRose a_Shares_n a_Shares a_Speeds_n a_Speeds left = some r) : laws_szRose_p a_Shares_n a_Shares a_Speeds_n a_Speeds left = true ∧ laws_szRose_v0 a_Shares_n a_Shares a_Speeds_n a_Speeds left = r := by
  unfold laws_szRose_p laws_szRose_v0
  rw [h]
  exact ⟨rfl, rfl⟩
noncomputable def F_impl_SameNumber (a : Nat) (b : Nat) : Option (Bool) := (br (fcmp BinOp.neq FloatKind.f32 a a) (br (fcmp BinOp.neq FloatKind.f32 a a) (some (fcmp BinOp.neq FloatKind.f32 b b)) (some Bool.false)) (br (fcmp BinOp.neq FloatKind.f32 b b) (br (fcmp BinOp.neq FloatKind.f32 a a) (some (fcmp BinOp.neq FloatKind.f32 b b)) (some Bool.false)) (br (fcmp BinOp.eql FloatKind.f32 a b) (grd (math_Signbit_p (fcvV FloatKind.f32 FloatKind.f64 a)) (grd (math_Signbit_p (fcvV FloatKind.f32 FloatKind.f64 b)) (some (beqB (math_Signbit_v0 (fcvV FloatKind.f32 FloatKind.f64 a)) (math_Signbit_v0 (fcvV FloatKind.f32 FloatKind.f64 b)))))) (some Bool.false))))
noncomputable def impl_SameNumber_p (a : Nat) (b : Nat) : Bool := (F_impl_SameNumber a b).isSome
noncomputable def impl_SameNumber_v0 (a : Nat) (b : Nat) : Bool := ((F_impl_SameNumber a b).getD default)
theorem impl_SameNumber_of {a : Nat} {b : Nat} {r : Bool} (h : F_impl_SameNumber a b = some r) : impl_SameNumber_p a b = true ∧ impl_SameNumber_v0 a b = r := by
  unfold impl_SameNumber_p impl_SameNumber_v0
  rw [h]
  exact ⟨rfl, rfl⟩
noncomputable def F_impl_isLeast (x : Nat) : Option (Bool) := (grd (impl_IsFinite_p x) (br (impl_IsFinite_v0 x) (some (fcmp BinOp.geq FloatKind.f32 x 0)) (some Bool.false)))
noncomputable def impl_isLeast_p (x : Nat) : Bool := (F_impl_isLeast x).isSome
noncomputable def impl_isLeast_v0 (x : Nat) : Bool := ((F_impl_isLeast x).getD default)
theorem impl_isLeast_of {x : Nat} {r : Bool} (h : F_impl_isLeast x = some r) : impl_isLeast_p x = true ∧ impl_isLeast_v0 x = r := by
  unfold impl_isLeast_p impl_isLeast_v0
  rw [h]
  exact ⟨rfl, rfl⟩
noncomputable def F_spec_l02Least (x : Nat) : Option (Bool) := (grd (spec_l01Finite_p x) (br (spec_l01Finite_v0 x) (some (fcmp BinOp.geq FloatKind.f32 x 0)) (some Bool.false)))
noncomputable def spec_l02Least_p (x : Nat) : Bool := (F_spec_l02Least x).isSome
noncomputable def spec_l02Least_v0 (x : Nat) : Bool := ((F_spec_l02Least x).getD default)
theorem spec_l02Least_of {x : Nat} {r : Bool} (h : F_spec_l02Least x = some r) : spec_l02Least_p x = true ∧ spec_l02Least_v0 x = r := by
  unfold spec_l02Least_p spec_l02Least_v0
  rw [h]
  exact ⟨rfl, rfl⟩
noncomputable def F_spec_l02Number (x : Nat) : Option (Nat × Bool) := (grd (spec_l01Finite_p x) (br (bnot (spec_l01Finite_v0 x)) (some (0, Bool.false)) (some (x, Bool.true))))
noncomputable def spec_l02Number_p (x : Nat) : Bool := (F_spec_l02Number x).isSome
noncomputable def spec_l02Number_v0 (x : Nat) : Nat := ((F_spec_l02Number x).getD default).1
noncomputable def spec_l02Number_v1 (x : Nat) : Bool := ((F_spec_l02Number x).getD default).2
theorem spec_l02Number_of {x : Nat} {r : Nat × Bool} (h : F_spec_l02Number x = some r) : spec_l02Number_p x = true ∧ spec_l02Number_v0 x = r.1 ∧ spec_l02Number_v1 x = r.2 := by
  unfold spec_l02Number_p spec_l02Number_v0 spec_l02Number_v1
  rw [h]
  exact ⟨rfl, rfl, rfl⟩
noncomputable def F_impl_checked (x : Nat) : Option (Nat × Bool) := (grd (impl_IsFinite_p x) (br (bnot (impl_IsFinite_v0 x)) (some (0, Bool.false)) (some (x, Bool.true))))
noncomputable def impl_checked_p (x : Nat) : Bool := (F_impl_checked x).isSome
noncomputable def impl_checked_v0 (x : Nat) : Nat := ((F_impl_checked x).getD default).1
noncomputable def impl_checked_v1 (x : Nat) : Bool := ((F_impl_checked x).getD default).2
theorem impl_checked_of {x : Nat} {r : Nat × Bool} (h : F_impl_checked x = some r) : impl_checked_p x = true ∧ impl_checked_v0 x = r.1 ∧ impl_checked_v1 x = r.2 := by
  unfold impl_checked_p impl_checked_v0 impl_checked_v1
  rw [h]
  exact ⟨rfl, rfl, rfl⟩
noncomputable def F_spec_l01Same (a : Nat) (b : Nat) : Option (Bool) := (grd (spec_l01Bits_p a) (grd (spec_l01Bits_p b) (some (eqI (spec_l01Bits_v0 a) (spec_l01Bits_v0 b)))))
noncomputable def spec_l01Same_p (a : Nat) (b : Nat) : Bool := (F_spec_l01Same a b).isSome
noncomputable def spec_l01Same_v0 (a : Nat) (b : Nat) : Bool := ((F_spec_l01Same a b).getD default)
theorem spec_l01Same_of {a : Nat} {b : Nat} {r : Bool} (h : F_spec_l01Same a b = some r) : spec_l01Same_p a b = true ∧ spec_l01Same_v0 a b = r := by
  unfold spec_l01Same_p spec_l01Same_v0
  rw [h]
  exact ⟨rfl, rfl⟩
noncomputable def F_spec_l02Above (x : Nat) : Option (Bool) := (grd (spec_l01Finite_p x) (br (spec_l01Finite_v0 x) (some (fcmp BinOp.gtr FloatKind.f32 x 0)) (some Bool.false)))
noncomputable def spec_l02Above_p (x : Nat) : Bool := (F_spec_l02Above x).isSome
noncomputable def spec_l02Above_v0 (x : Nat) : Bool := ((F_spec_l02Above x).getD default)
theorem spec_l02Above_of {x : Nat} {r : Bool} (h : F_spec_l02Above x = some r) : spec_l02Above_p x = true ∧ spec_l02Above_v0 x = r := by
  unfold spec_l02Above_p spec_l02Above_v0
  rw [h]
  exact ⟨rfl, rfl⟩
noncomputable def F_impl_arePositive_1 (x : Nat) : Option (Bool) := (grd (impl_IsFinite_p x) (br (bnot (impl_IsFinite_v0 x)) (some Bool.true) (some (fcmp BinOp.leq FloatKind.f32 x 0))))
noncomputable def impl_arePositive_1_p (x : Nat) : Bool := (F_impl_arePositive_1 x).isSome
noncomputable def impl_arePositive_1_v0 (x : Nat) : Bool := ((F_impl_arePositive_1 x).getD default)
theorem impl_arePositive_1_of {x : Nat} {r : Bool} (h : F_impl_arePositive_1 x = some r) : impl_arePositive_1_p x = true ∧ impl_arePositive_1_v0 x = r := by
  unfold impl_arePositive_1_p impl_arePositive_1_v0
  rw [h]
  exact ⟨rfl, rfl⟩
noncomputable def L_laws_toFloat32S_l3 (an : Nat) (outn : Nat) (b0 : List Nat) : Nat → Int → (List Nat) → Option ((Int × Bool × (List Nat)))
  | 0, _, _ => none
  | n + 1, i, b1 => (br (ltI i (Int.ofNat an)) (grd (okIx i an) (grd (okIx i outn) (L_laws_toFloat32S_l3 an outn b0 n (addI IntKind.i64 i 1) (sF b1 (ixO 0 i 1) (gF b0 (ixO 0 i 1)))))) (some (i, (ltI i (Int.ofNat an)), b1)))
theorem L_laws_toFloat32S_l3_succ (an : Nat) (outn : Nat) (b0 : List Nat) (n : Nat) (i : Int) (b1 : List Nat) : L_laws_toFloat32S_l3 an outn b0 (n + 1) i b1 = (br (ltI i (Int.ofNat an)) (grd (okIx i an) (grd (okIx i outn) (L_laws_toFloat32S_l3 an outn b0 n (addI IntKind.i64 i 1) (sF b1 (ixO 0 i 1) (gF b0 (ixO 0 i 1)))))) (some (i, (ltI i (Int.ofNat an)), b1))) := rfl
noncomputable def laws_toFloat32S_l3_p (an : Nat) (outn : Nat) (b0 : List Nat) (i : Int) (b1 : List Nat) : Bool := (L_laws_toFloat32S_l3 an outn b0 big i b1).isSome
noncomputable def laws_toFloat32S_l3_a0_0 (an : Nat) (outn : Nat) (b0 : List Nat) (i : Int) (b1 : List Nat) : Int := ((L_laws_toFloat32S_l3 an outn b0 big i b1).getD default).1
noncomputable def laws_toFloat32S_l3_a0_1 (an : Nat) (outn : Nat) (b0 : List Nat) (i : Int) (b1 : List Nat) : Bool := ((L_laws_toFloat32S_l3 an outn b0 big i b1).getD default).2.1
noncomputable def laws_toFloat32S_l3_a0_2 (an : Nat) (outn : Nat) (b0 : List Nat) (i : Int) (b1 : List Nat) : List Nat := ((L_laws_toFloat32S_l3 an outn b0 big i b1).getD default).2.2
theorem laws_toFloat32S_l3_of0 {an : Nat} {outn : Nat} {b0 : List Nat} {i : Int} {b1 : List Nat} {m : Nat} {r : Int × Bool × (List Nat)} (hm : m = big) (h : L_laws_toFloat32S_l3 an outn b0 m i b1 = some r) : laws_toFloat32S_l3_p an outn b0 i b1 = true ∧ laws_toFloat32S_l3_a0_0 an outn b0 i b1 = r.1 ∧ laws_toFloat32S_l3_a0_1 an outn b0 i b1 = r.2.1 ∧ laws_toFloat32S_l3_a0_2 an outn b0 i b1 = r.2.2 := by
  subst hm
  unfold laws_toFloat32S_l3_p laws_toFloat32S_l3_a0_0 laws_toFloat32S_l3_a0_1 laws_toFloat32S_l3_a0_2
  rw [h]
  exact ⟨rfl, rfl, rfl, rfl⟩
noncomputable def L_slices_IndexFunc_sf32_f32_arePositive_1_l2 (sn : Nat) (t7 : Int) (b0 : List Nat) : Nat → Int → Option ((Int) ⊕ (Int × Bool))
  | 0, _ => none
  | n + 1, t8 => (br (ltI t8 t7) (grd (okIx t8 sn) (grd (impl_IsFinite_p (gF b0 (ixO 0 t8 1))) (br (bnot (impl_IsFinite_v0 (gF b0 (ixO 0 t8 1)))) (some (Sum.inl t8)) (br (fcmp BinOp.leq FloatKind.f32 (gF b0 (ixO 0 t8 1)) 0) (some (Sum.inl t8)) (L_slices_IndexFunc_sf32_f32_arePositive_1_l2 sn t7 b0 n (addI IntKind.i64 t8 1)))))) (some (Sum.inr (t8, (ltI t8 t7)))))
theorem L_slices_IndexFunc_sf32_f32_arePositive_1_l2_succ (sn : Nat) (t7 : Int) (b0 : List Nat) (n : Nat) (t8 : Int) : L_slices_IndexFunc_sf32_f32_arePositive_1_l2 sn t7 b0 (n + 1) t8 = (br (ltI t8 t7) (grd (okIx t8 sn) (grd (impl_IsFinite_p (gF b0 (ixO 0 t8 1))) (br (bnot (impl_IsFinite_v0 (gF b0 (ixO 0 t8 1)))) (some (Sum.inl t8)) (br (fcmp BinOp.leq FloatKind.f32 (gF b0 (ixO 0 t8 1)) 0) (some (Sum.inl t8)) (L_slices_IndexFunc_sf32_f32_arePositive_1_l2 sn t7 b0 n (addI IntKind.i64 t8 1)))))) (some (Sum.inr (t8, (ltI t8 t7))))) := rfl
noncomputable def slices_IndexFunc_sf32_f32_arePositive_1_l2_p (sn : Nat) (t7 : Int) (b0 : List Nat) (t8 : Int) : Bool := (L_slices_IndexFunc_sf32_f32_arePositive_1_l2 sn t7 b0 big t8).isSome
noncomputable def slices_IndexFunc_sf32_f32_arePositive_1_l2_w0 (sn : Nat) (t7 : Int) (b0 : List Nat) (t8 : Int) : Bool := oL (L_slices_IndexFunc_sf32_f32_arePositive_1_l2 sn t7 b0 big t8)
noncomputable def slices_IndexFunc_sf32_f32_arePositive_1_l2_a0_0 (sn : Nat) (t7 : Int) (b0 : List Nat) (t8 : Int) : Int := ((tL (L_slices_IndexFunc_sf32_f32_arePositive_1_l2 sn t7 b0 big t8)).getD default)
noncomputable def slices_IndexFunc_sf32_f32_arePositive_1_l2_a1_0 (sn : Nat) (t7 : Int) (b0 : List Nat) (t8 : Int) : Int := ((tR (L_slices_IndexFunc_sf32_f32_arePositive_1_l2 sn t7 b0 big t8)).getD default).1
noncomputable def slices_IndexFunc_sf32_f32_arePositive_1_l2_a1_1 (sn : Nat) (t7 : Int) (b0 : List Nat) (t8 : Int) : Bool := ((tR (L_slices_IndexFunc_sf32_f32_arePositive_1_l2 sn t7 b0 big t8)).getD default).2
theorem slices_IndexFunc_sf32_f32_arePositive_1_l2_of0 {sn : Nat} {t7 : Int} {b0 : List Nat} {t8 : Int} {m : Nat} {r : Int} (hm : m = big) (h : L_slices_IndexFunc_sf32_f32_arePositive_1_l2 sn t7 b0 m t8 = some (Sum.inl r)) : slices_IndexFunc_sf32_f32_arePositive_1_l2_p sn t7 b0 t8 = true ∧ slices_IndexFunc_sf32_f32_arePositive_1_l2_w0 sn t7 b0 t8 = true ∧ slices_IndexFunc_sf32_f32_arePositive_1_l2_a0_0 sn t7 b0 t8 = r := by
  subst hm
  unfold slices_IndexFunc_sf32_f32_arePositive_1_l2_p slices_IndexFunc_sf32_f32_arePositive_1_l2_w0 slices_IndexFunc_sf32_f32_arePositive_1_l2_a0_0
  rw [h]
  exact ⟨rfl, rfl, rfl⟩
theorem slices_IndexFunc_sf32_f32_arePositive_1_l2_of1 {sn : Nat} {t7 : Int} {b0 : List Nat} {t8 : Int} {m : Nat} {r : Int × Bool} (hm : m = big) (h : L_slices_IndexFunc_sf32_f32_arePositive_1_l2 sn t7 b0 m t8 = some (Sum.inr r)) : slices_IndexFunc_sf32_f32_arePositive_1_l2_p sn t7 b0 t8 = true ∧ slices_IndexFunc_sf32_f32_arePositive_1_l2_w0 sn t7 b0 t8 = false ∧ slices_IndexFunc_sf32_f32_arePositive_1_l2_a1_0 sn t7 b0 t8 = r.1 ∧ slices_IndexFunc_sf32_f32_arePositive_1_l2_a1_1 sn t7 b0 t8 = r.2 := by
  subst hm
  unfold slices_IndexFunc_sf32_f32_arePositive_1_l2_p slices_IndexFunc_sf32_f32_arePositive_1_l2_w0 slices_IndexFunc_sf32_f32_arePositive_1_l2_a1_0 slices_IndexFunc_sf32_f32_arePositive_1_l2_a1_1
  rw [h]
  exact ⟨rfl, rfl, rfl, rfl⟩
noncomputable def L_slices_IndexFunc_sf32_f32_areLeast_1_l2 (sn : Nat) (t7 : Int) (b0 : List Nat) : Nat → Int → Option ((Int) ⊕ (Int × Bool))
  | 0, _ => none
  | n + 1, t8 => (br (ltI t8 t7) (grd (okIx t8 sn) (grd (impl_IsFinite_p (gF b0 (ixO 0 t8 1))) (br (impl_IsFinite_v0 (gF b0 (ixO 0 t8 1))) (br (bnot (fcmp BinOp.geq FloatKind.f32 (gF b0 (ixO 0 t8 1)) 0)) (some (Sum.inl t8)) (L_slices_IndexFunc_sf32_f32_areLeast_1_l2 sn t7 b0 n (addI IntKind.i64 t8 1))) (br (bnot Bool.false) (some (Sum.inl t8)) (L_slices_IndexFunc_sf32_f32_areLeast_1_l2 sn t7 b0 n (addI IntKind.i64 t8 1)))))) (some (Sum.inr (t8, (ltI t8 t7)))))
theorem L_slices_IndexFunc_sf32_f32_areLeast_1_l2_succ (sn : Nat) (t7 : Int) (b0 : List Nat) (n : Nat) (t8 : Int) : L_slices_IndexFunc_sf32_f32_areLeast_1_l2 sn t7 b0 (n + 1) t8 = (br (ltI t8 t7) (grd (okIx t8 sn) (grd (impl_IsFinite_p (gF b0 (ixO 0 t8 1))) (br (impl_IsFinite_v0 (gF b0 (ixO 0 t8 1))) (br (bnot (fcmp BinOp.geq FloatKind.f32 (gF b0 (ixO 0 t8 1)) 0)) (some (Sum.inl t8)) (L_slices_IndexFunc_sf32_f32_areLeast_1_l2 sn t7 b0 n (addI IntKind.i64 t8 1))) (br (bnot Bool.false) (some (Sum.inl t8)) (L_slices_IndexFunc_sf32_f32_areLeast_1_l2 sn t7 b0 n (addI IntKind.i64 t8 1)))))) (some (Sum.inr (t8, (ltI t8 t7))))) := rfl
noncomputable def slices_IndexFunc_sf32_f32_areLeast_1_l2_p (sn : Nat) (t7 : Int) (b0 : List Nat) (t8 : Int) : Bool := (L_slices_IndexFunc_sf32_f32_areLeast_1_l2 sn t7 b0 big t8).isSome
noncomputable def slices_IndexFunc_sf32_f32_areLeast_1_l2_w0 (sn : Nat) (t7 : Int) (b0 : List Nat) (t8 : Int) : Bool := oL (L_slices_IndexFunc_sf32_f32_areLeast_1_l2 sn t7 b0 big t8)
noncomputable def slices_IndexFunc_sf32_f32_areLeast_1_l2_a0_0 (sn : Nat) (t7 : Int) (b0 : List Nat) (t8 : Int) : Int := ((tL (L_slices_IndexFunc_sf32_f32_areLeast_1_l2 sn t7 b0 big t8)).getD default)
noncomputable def slices_IndexFunc_sf32_f32_areLeast_1_l2_a1_0 (sn : Nat) (t7 : Int) (b0 : List Nat) (t8 : Int) : Int := ((tR (L_slices_IndexFunc_sf32_f32_areLeast_1_l2 sn t7 b0 big t8)).getD default).1
noncomputable def slices_IndexFunc_sf32_f32_areLeast_1_l2_a1_1 (sn : Nat) (t7 : Int) (b0 : List Nat) (t8 : Int) : Bool := ((tR (L_slices_IndexFunc_sf32_f32_areLeast_1_l2 sn t7 b0 big t8)).getD default).2
theorem slices_IndexFunc_sf32_f32_areLeast_1_l2_of0 {sn : Nat} {t7 : Int} {b0 : List Nat} {t8 : Int} {m : Nat} {r : Int} (hm : m = big) (h : L_slices_IndexFunc_sf32_f32_areLeast_1_l2 sn t7 b0 m t8 = some (Sum.inl r)) : slices_IndexFunc_sf32_f32_areLeast_1_l2_p sn t7 b0 t8 = true ∧ slices_IndexFunc_sf32_f32_areLeast_1_l2_w0 sn t7 b0 t8 = true ∧ slices_IndexFunc_sf32_f32_areLeast_1_l2_a0_0 sn t7 b0 t8 = r := by
  subst hm
  unfold slices_IndexFunc_sf32_f32_areLeast_1_l2_p slices_IndexFunc_sf32_f32_areLeast_1_l2_w0 slices_IndexFunc_sf32_f32_areLeast_1_l2_a0_0
  rw [h]
  exact ⟨rfl, rfl, rfl⟩
theorem slices_IndexFunc_sf32_f32_areLeast_1_l2_of1 {sn : Nat} {t7 : Int} {b0 : List Nat} {t8 : Int} {m : Nat} {r : Int × Bool} (hm : m = big) (h : L_slices_IndexFunc_sf32_f32_areLeast_1_l2 sn t7 b0 m t8 = some (Sum.inr r)) : slices_IndexFunc_sf32_f32_areLeast_1_l2_p sn t7 b0 t8 = true ∧ slices_IndexFunc_sf32_f32_areLeast_1_l2_w0 sn t7 b0 t8 = false ∧ slices_IndexFunc_sf32_f32_areLeast_1_l2_a1_0 sn t7 b0 t8 = r.1 ∧ slices_IndexFunc_sf32_f32_areLeast_1_l2_a1_1 sn t7 b0 t8 = r.2 := by
  subst hm
  unfold slices_IndexFunc_sf32_f32_areLeast_1_l2_p slices_IndexFunc_sf32_f32_areLeast_1_l2_w0 slices_IndexFunc_sf32_f32_areLeast_1_l2_a1_0 slices_IndexFunc_sf32_f32_areLeast_1_l2_a1_1
  rw [h]
  exact ⟨rfl, rfl, rfl, rfl⟩
end Go.Rf
