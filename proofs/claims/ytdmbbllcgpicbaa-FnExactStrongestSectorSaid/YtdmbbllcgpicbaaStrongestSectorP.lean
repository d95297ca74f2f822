import Derived.Test.YtdmbbllcgpicbaaB
set_option linter.unusedVariables false
set_option linter.unusedSimpArgs false
set_option maxRecDepth 100000
set_option maxHeartbeats 4000000
namespace Go.Rf
open Go
noncomputable def T_laws_sameFloat {R : Type} (a : Nat) (b : Nat) (k_ : Bool → Option R) : Option R := (br (fcmp BinOp.neq FloatKind.f64 a a) (br (fcmp BinOp.neq FloatKind.f64 a a) (k_ (fcmp BinOp.neq FloatKind.f64 b b)) (k_ Bool.false)) (br (fcmp BinOp.neq FloatKind.f64 b b) (br (fcmp BinOp.neq FloatKind.f64 a a) (k_ (fcmp BinOp.neq FloatKind.f64 b b)) (k_ Bool.false)) (br (fcmp BinOp.eql FloatKind.f64 a 0) (br (fcmp BinOp.eql FloatKind.f64 b 0) (k_ (beqB (fcmp BinOp.gtr FloatKind.f64 (fop BinOp.quo FloatKind.f64 4607182418800017408 a) 0) (fcmp BinOp.gtr FloatKind.f64 (fop BinOp.quo FloatKind.f64 4607182418800017408 b) 0))) (k_ (fcmp BinOp.eql FloatKind.f64 a b))) (k_ (fcmp BinOp.eql FloatKind.f64 a b)))))
noncomputable def F_laws_sameFloat (a : Nat) (b : Nat) : Option (Bool) := T_laws_sameFloat a b (fun c0_ => some c0_)
theorem T_laws_sameFloat_nat {R R' : Type} (o : Option R → Option R') (h0 : o none = none) (a : Nat) (b : Nat) (k_ : Bool → Option R) : T_laws_sameFloat a b (fun c0_ => o (k_ c0_)) = o (T_laws_sameFloat a b k_) := by
  unfold T_laws_sameFloat
  repeat (first | refine grd_out h0 ?_ | refine br_out ?_ ?_ | rfl | exact h0.symm)
noncomputable def laws_sameFloat_p (a : Nat) (b : Nat) : Bool := (F_laws_sameFloat a b).isSome
noncomputable def laws_sameFloat_v0 (a : Nat) (b : Nat) : Bool := ((F_laws_sameFloat a b).getD default)
theorem laws_sameFloat_of {a : Nat} {b : Nat} {r : Bool} (h : F_laws_sameFloat a b = some r) : laws_sameFloat_p a b = true ∧ laws_sameFloat_v0 a b = r := by
  unfold laws_sameFloat_p laws_sameFloat_v0
  rw [h]
  exact ⟨rfl, rfl⟩
noncomputable def T_spec_l01Finite {R : Type} (x : Nat) (k_ : Bool → Option R) : Option R := (k_ (fcmp BinOp.eql FloatKind.f32 (fop BinOp.sub FloatKind.f32 x x) 0))
noncomputable def F_spec_l01Finite (x : Nat) : Option (Bool) := T_spec_l01Finite x (fun c0_ => some c0_)
theorem T_spec_l01Finite_nat {R R' : Type} (o : Option R → Option R') (h0 : o none = none) (x : Nat) (k_ : Bool → Option R) : T_spec_l01Finite x (fun c0_ => o (k_ c0_)) = o (T_spec_l01Finite x k_) := by
  unfold T_spec_l01Finite
  repeat (first | refine grd_out h0 ?_ | refine br_out ?_ ?_ | rfl | exact h0.symm)
noncomputable def spec_l01Finite_p (x : Nat) : Bool := (F_spec_l01Finite x).isSome
noncomputable def spec_l01Finite_v0 (x : Nat) : Bool := ((F_spec_l01Finite x).getD default)
theorem spec_l01Finite_of {x : Nat} {r : Bool} (h : F_spec_l01Finite x = some r) : spec_l01Finite_p x = true ∧ spec_l01Finite_v0 x = r := by
  unfold spec_l01Finite_p spec_l01Finite_v0
  rw [h]
  exact ⟨rfl, rfl⟩
noncomputable def T_laws_szFloat32S {R : Type} (a_n : Nat) (a : List Nat) (left : Int) (k_ : Int → Option R) : Option R := (br (ltI (subI IntKind.i64 left (Int.ofNat a_n)) 0) (k_ (Int.negSucc 0)) (k_ (subI IntKind.i64 left (Int.ofNat a_n))))
noncomputable def F_laws_szFloat32S (a_n : Nat) (a : List Nat) (left : Int) : Option (Int) := T_laws_szFloat32S a_n a left (fun c0_ => some c0_)
theorem T_laws_szFloat32S_nat {R R' : Type} (o : Option R → Option R') (h0 : o none = none) (a_n : Nat) (a : List Nat) (left : Int) (k_ : Int → Option R) : T_laws_szFloat32S a_n a left (fun c0_ => o (k_ c0_)) = o (T_laws_szFloat32S a_n a left k_) := by
  unfold T_laws_szFloat32S
  repeat (first | refine grd_out h0 ?_ | refine br_out ?_ ?_ | rfl | exact h0.symm)
noncomputable def laws_szFloat32S_p (a_n : Nat) (a : List Nat) (left : Int) : Bool := (F_laws_szFloat32S a_n a left).isSome
noncomputable def laws_szFloat32S_v0 (a_n : Nat) (a : List Nat) (left : Int) : Int := ((F_laws_szFloat32S a_n a left).getD default)
theorem laws_szFloat32S_of {a_n : Nat} {a : List Nat} {left : Int} {r : Int} (h : F_laws_szFloat32S a_n a left = some r) : laws_szFloat32S_p a_n a left = true ∧ laws_szFloat32S_v0 a_n a left = r := by
  unfold laws_szFloat32S_p laws_szFloat32S_v0
  rw [h]
  exact ⟨rfl, rfl⟩
noncomputable def T_spec_l04Power {R : Type} (density : Nat) (speed : Nat) (k_ : Nat → Option R) : Option R := (k_ (fop BinOp.mul FloatKind.f32 (fop BinOp.mul FloatKind.f32 (fop BinOp.mul FloatKind.f32 (fop BinOp.mul FloatKind.f32 1056964608 density) speed) speed) speed))
noncomputable def F_spec_l04Power (density : Nat) (speed : Nat) : Option (Nat) := T_spec_l04Power density speed (fun c0_ => some c0_)
theorem T_spec_l04Power_nat {R R' : Type} (o : Option R → Option R') (h0 : o none = none) (density : Nat) (speed : Nat) (k_ : Nat → Option R) : T_spec_l04Power density speed (fun c0_ => o (k_ c0_)) = o (T_spec_l04Power density speed k_) := by
  unfold T_spec_l04Power
  repeat (first | refine grd_out h0 ?_ | refine br_out ?_ ?_ | rfl | exact h0.symm)
noncomputable def spec_l04Power_p (density : Nat) (speed : Nat) : Bool := (F_spec_l04Power density speed).isSome
noncomputable def spec_l04Power_v0 (density : Nat) (speed : Nat) : Nat := ((F_spec_l04Power density speed).getD default)
theorem spec_l04Power_of {density : Nat} {speed : Nat} {r : Nat} (h : F_spec_l04Power density speed = some r) : spec_l04Power_p density speed = true ∧ spec_l04Power_v0 density speed = r := by
  unfold spec_l04Power_p spec_l04Power_v0
  rw [h]
  exact ⟨rfl, rfl⟩
noncomputable def T_impl_IsFinite {R : Type} (x : Nat) (k_ : Bool → Option R) : Option R := (k_ (fcmp BinOp.eql FloatKind.f32 (fop BinOp.sub FloatKind.f32 x x) 0))
noncomputable def F_impl_IsFinite (x : Nat) : Option (Bool) := T_impl_IsFinite x (fun c0_ => some c0_)
theorem T_impl_IsFinite_nat {R R' : Type} (o : Option R → Option R') (h0 : o none = none) (x : Nat) (k_ : Bool → Option R) : T_impl_IsFinite x (fun c0_ => o (k_ c0_)) = o (T_impl_IsFinite x k_) := by
  unfold T_impl_IsFinite
  repeat (first | refine grd_out h0 ?_ | refine br_out ?_ ?_ | rfl | exact h0.symm)
noncomputable def impl_IsFinite_p (x : Nat) : Bool := (F_impl_IsFinite x).isSome
noncomputable def impl_IsFinite_v0 (x : Nat) : Bool := ((F_impl_IsFinite x).getD default)
theorem impl_IsFinite_of {x : Nat} {r : Bool} (h : F_impl_IsFinite x = some r) : impl_IsFinite_p x = true ∧ impl_IsFinite_v0 x = r := by
  unfold impl_IsFinite_p impl_IsFinite_v0
  rw [h]
  exact ⟨rfl, rfl⟩
noncomputable def T_laws_szRose {R : Type} (a_Shares_n : Nat) (a_Shares : List Nat) (a_Speeds_n : Nat) (a_Speeds : List Nat) (left : Int) (k_ : Int → Option R) : Option R := (grd (laws_szFloat32S_p a_Shares_n (pF a_Shares 0 (muN a_Shares_n 1)) left) (br (ltI (laws_szFloat32S_v0 a_Shares_n (pF a_Shares 0 (muN a_Shares_n 1)) left) 0) (k_ (Int.negSucc 0)) (grd (laws_szFloat32S_p a_Speeds_n (pF a_Speeds 0 (muN a_Speeds_n 1)) (laws_szFloat32S_v0 a_Shares_n (pF a_Shares 0 (muN a_Shares_n 1)) left)) (br (ltI (laws_szFloat32S_v0 a_Speeds_n (pF a_Speeds 0 (muN a_Speeds_n 1)) (laws_szFloat32S_v0 a_Shares_n (pF a_Shares 0 (muN a_Shares_n 1)) left)) 0) (k_ (Int.negSucc 0)) (k_ (laws_szFloat32S_v0 a_Speeds_n (pF a_Speeds 0 (muN a_Speeds_n 1)) (laws_szFloat32S_v0 a_Shares_n (pF a_Shares 0 (muN a_Shares_n 1)) left)))))))
noncomputable def F_laws_szRose (a_Shares_n : Nat) (a_Shares : List Nat) (a_Speeds_n : Nat) (a_Speeds : List Nat) (left : Int) : Option (Int) := T_laws_szRose a_Shares_n a_Shares a_Speeds_n a_Speeds left (fun c0_ => some c0_)
theorem T_laws_szRose_nat {R R' : Type} (o : Option R → Option R') (h0 : o none = none) (a_Shares_n : Nat) (a_Shares : List Nat) (a_Speeds_n : Nat) (a_Speeds : List Nat) (left : Int) (k_ : Int → Option R) : T_laws_szRose a_Shares_n a_Shares a_Speeds_n a_Speeds left (fun c0_ => o (k_ c0_)) = o (T_laws_szRose a_Shares_n a_Shares a_Speeds_n a_Speeds left k_) := by
  unfold T_laws_szRose
  repeat (first | refine grd_out h0 ?_ | refine br_out ?_ ?_ | rfl | exact h0.symm)
noncomputable def laws_szRose_p (a_Shares_n : Nat) (a_Shares : List Nat) (a_Speeds_n : Nat) (a_Speeds : List Nat) (left : Int) : Bool := (F_laws_szRose a_Shares_n a_Shares a_Speeds_n a_Speeds left).isSome
noncomputable def laws_szRose_v0 (a_Shares_n : Nat) (a_Shares : List Nat) (a_Speeds_n : Nat) (a_Speeds : List Nat) (left : Int) : Int := ((F_laws_szRose a_Shares_n a_Shares a_Speeds_n a_Speeds left).getD default)
theorem laws_szRose_of {a_Shares_n : Nat} {a_Shares : List Nat} {a_Speeds_n : Nat} {a_Speeds : List Nat} {left : Int} {r : Int} (h : F_laws_szRose a_Shares_n a_Shares a_Speeds_n a_Speeds left = some r) : laws_szRose_p a_Shares_n a_Shares a_Speeds_n a_Speeds left = true ∧ laws_szRose_v0 a_Shares_n a_Shares a_Speeds_n a_Speeds left = r := by
  unfold laws_szRose_p laws_szRose_v0
  rw [h]
  exact ⟨rfl, rfl⟩
noncomputable def T_spec_l02Least {R : Type} (x : Nat) (k_ : Bool → Option R) : Option R := (grd (spec_l01Finite_p x) (br (spec_l01Finite_v0 x) (k_ (fcmp BinOp.geq FloatKind.f32 x 0)) (k_ Bool.false)))
noncomputable def F_spec_l02Least (x : Nat) : Option (Bool) := T_spec_l02Least x (fun c0_ => some c0_)
theorem T_spec_l02Least_nat {R R' : Type} (o : Option R → Option R') (h0 : o none = none) (x : Nat) (k_ : Bool → Option R) : T_spec_l02Least x (fun c0_ => o (k_ c0_)) = o (T_spec_l02Least x k_) := by
  unfold T_spec_l02Least
  repeat (first | refine grd_out h0 ?_ | refine br_out ?_ ?_ | rfl | exact h0.symm)
noncomputable def spec_l02Least_p (x : Nat) : Bool := (F_spec_l02Least x).isSome
noncomputable def spec_l02Least_v0 (x : Nat) : Bool := ((F_spec_l02Least x).getD default)
theorem spec_l02Least_of {x : Nat} {r : Bool} (h : F_spec_l02Least x = some r) : spec_l02Least_p x = true ∧ spec_l02Least_v0 x = r := by
  unfold spec_l02Least_p spec_l02Least_v0
  rw [h]
  exact ⟨rfl, rfl⟩
noncomputable def T_impl_isLeast {R : Type} (x : Nat) (k_ : Bool → Option R) : Option R := (grd (impl_IsFinite_p x) (br (impl_IsFinite_v0 x) (k_ (fcmp BinOp.geq FloatKind.f32 x 0)) (k_ Bool.false)))
noncomputable def F_impl_isLeast (x : Nat) : Option (Bool) := T_impl_isLeast x (fun c0_ => some c0_)
theorem T_impl_isLeast_nat {R R' : Type} (o : Option R → Option R') (h0 : o none = none) (x : Nat) (k_ : Bool → Option R) : T_impl_isLeast x (fun c0_ => o (k_ c0_)) = o (T_impl_isLeast x k_) := by
  unfold T_impl_isLeast
  repeat (first | refine grd_out h0 ?_ | refine br_out ?_ ?_ | rfl | exact h0.symm)
noncomputable def impl_isLeast_p (x : Nat) : Bool := (F_impl_isLeast x).isSome
noncomputable def impl_isLeast_v0 (x : Nat) : Bool := ((F_impl_isLeast x).getD default)
theorem impl_isLeast_of {x : Nat} {r : Bool} (h : F_impl_isLeast x = some r) : impl_isLeast_p x = true ∧ impl_isLeast_v0 x = r := by
  unfold impl_isLeast_p impl_isLeast_v0
  rw [h]
  exact ⟨rfl, rfl⟩
noncomputable def T_impl_checked {R : Type} (x : Nat) (k_ : Nat → Bool → Option R) : Option R := (grd (impl_IsFinite_p x) (br (bnot (impl_IsFinite_v0 x)) (k_ 0 Bool.false) (k_ x Bool.true)))
noncomputable def F_impl_checked (x : Nat) : Option (Nat × Bool) := T_impl_checked x (fun c0_ c1_ => some (c0_, c1_))
theorem T_impl_checked_nat {R R' : Type} (o : Option R → Option R') (h0 : o none = none) (x : Nat) (k_ : Nat → Bool → Option R) : T_impl_checked x (fun c0_ c1_ => o (k_ c0_ c1_)) = o (T_impl_checked x k_) := by
  unfold T_impl_checked
  repeat (first | refine grd_out h0 ?_ | refine br_out ?_ ?_ | rfl | exact h0.symm)
noncomputable def impl_checked_p (x : Nat) : Bool := (F_impl_checked x).isSome
noncomputable def impl_checked_v0 (x : Nat) : Nat := ((F_impl_checked x).getD default).1
noncomputable def impl_checked_v1 (x : Nat) : Bool := ((F_impl_checked x).getD default).2
theorem impl_checked_of {x : Nat} {r : Nat × Bool} (h : F_impl_checked x = some r) : impl_checked_p x = true ∧ impl_checked_v0 x = r.1 ∧ impl_checked_v1 x = r.2 := by
  unfold impl_checked_p impl_checked_v0 impl_checked_v1
  rw [h]
  exact ⟨rfl, rfl, rfl⟩
noncomputable def T_laws_toFloat32S_l3 {R : Type} (an : Nat) (outn : Nat) (b0 : List Nat) (i : Int) (b1 : List Nat) (kn_ : Int → (List Nat) → Option R) (k0_ : Int → Bool → (List Nat) → Option R) : Option R := (br (ltI i (Int.ofNat an)) (grd (okIx i an) (grd (okIx i outn) (kn_ (addI IntKind.i64 i 1) (sF b1 (ixO 0 i 1) (gF b0 (ixO 0 i 1)))))) (k0_ i (ltI i (Int.ofNat an)) b1))
theorem T_laws_toFloat32S_l3_nat {R R' : Type} (o : Option R → Option R') (h0 : o none = none) (an : Nat) (outn : Nat) (b0 : List Nat) (i : Int) (b1 : List Nat) (kn_ : Int → (List Nat) → Option R) (k0_ : Int → Bool → (List Nat) → Option R) : T_laws_toFloat32S_l3 an outn b0 i b1 (fun i' b1' => o (kn_ i' b1')) (fun c0_ c1_ c2_ => o (k0_ c0_ c1_ c2_)) = o (T_laws_toFloat32S_l3 an outn b0 i b1 kn_ k0_) := by
  unfold T_laws_toFloat32S_l3
  repeat (first | refine grd_out h0 ?_ | refine br_out ?_ ?_ | rfl | exact h0.symm)
noncomputable def L_laws_toFloat32S_l3 (an : Nat) (outn : Nat) (b0 : List Nat) : Nat → Int → (List Nat) → Option ((Int × Bool × (List Nat)))
  | 0, _, _ => none
  | n + 1, i, b1 => T_laws_toFloat32S_l3 an outn b0  i b1  (fun i' b1' => L_laws_toFloat32S_l3 an outn b0 n i' b1') (fun c0_ c1_ c2_ => some (c0_, c1_, c2_))
theorem L_laws_toFloat32S_l3_succ (an : Nat) (outn : Nat) (b0 : List Nat) (n : Nat) (i : Int) (b1 : List Nat) : L_laws_toFloat32S_l3 an outn b0 (n + 1) i b1 = T_laws_toFloat32S_l3 an outn b0  i b1  (fun i' b1' => L_laws_toFloat32S_l3 an outn b0 n i' b1') (fun c0_ c1_ c2_ => some (c0_, c1_, c2_)) := rfl
noncomputable def laws_toFloat32S_l3_p (an : Nat) (outn : Nat) (b0 : List Nat) (i : Int) (b1 : List Nat) : Bool := (L_laws_toFloat32S_l3 an outn b0 big i b1).isSome
noncomputable def laws_toFloat32S_l3_a0_0 (an : Nat) (outn : Nat) (b0 : List Nat) (i : Int) (b1 : List Nat) : Int := ((L_laws_toFloat32S_l3 an outn b0 big i b1).getD default).1
noncomputable def laws_toFloat32S_l3_a0_1 (an : Nat) (outn : Nat) (b0 : List Nat) (i : Int) (b1 : List Nat) : Bool := ((L_laws_toFloat32S_l3 an outn b0 big i b1).getD default).2.1
noncomputable def laws_toFloat32S_l3_a0_2 (an : Nat) (outn : Nat) (b0 : List Nat) (i : Int) (b1 : List Nat) : List Nat := ((L_laws_toFloat32S_l3 an outn b0 big i b1).getD default).2.2
theorem laws_toFloat32S_l3_of0 {an : Nat} {outn : Nat} {b0 : List Nat} {i : Int} {b1 : List Nat} {m : Nat} {r : Int × Bool × (List Nat)} (hm : m = big) (h : L_laws_toFloat32S_l3 an outn b0 m i b1 = some r) : laws_toFloat32S_l3_p an outn b0 i b1 = true ∧ laws_toFloat32S_l3_a0_0 an outn b0 i b1 = r.1 ∧ laws_toFloat32S_l3_a0_1 an outn b0 i b1 = r.2.1 ∧ laws_toFloat32S_l3_a0_2 an outn b0 i b1 = r.2.2 := by
  subst hm
  unfold laws_toFloat32S_l3_p laws_toFloat32S_l3_a0_0 laws_toFloat32S_l3_a0_1 laws_toFloat32S_l3_a0_2
  rw [h]
  exact ⟨rfl, rfl, rfl, rfl⟩
noncomputable def T_laws_toFloat32S {R : Type} (a_n : Nat) (a : List Nat) (k_ : Nat → (List Nat) → Option R) : Option R := (grd (okMk (Int.ofNat a_n) (Int.ofNat a_n) 4) (grd (laws_toFloat32S_l3_p a_n (toN (Int.ofNat a_n)) a 0 (rF (muN (toN (Int.ofNat a_n)) 1))) (k_ (toN (Int.ofNat a_n)) (laws_toFloat32S_l3_a0_2 a_n (toN (Int.ofNat a_n)) a 0 (rF (muN (toN (Int.ofNat a_n)) 1))))))
noncomputable def F_laws_toFloat32S (a_n : Nat) (a : List Nat) : Option (Nat × (List Nat)) := T_laws_toFloat32S a_n a (fun c0_ c1_ => some (c0_, c1_))
theorem T_laws_toFloat32S_nat {R R' : Type} (o : Option R → Option R') (h0 : o none = none) (a_n : Nat) (a : List Nat) (k_ : Nat → (List Nat) → Option R) : T_laws_toFloat32S a_n a (fun c0_ c1_ => o (k_ c0_ c1_)) = o (T_laws_toFloat32S a_n a k_) := by
  unfold T_laws_toFloat32S
  repeat (first | refine grd_out h0 ?_ | refine br_out ?_ ?_ | rfl | exact h0.symm)
noncomputable def laws_toFloat32S_p (a_n : Nat) (a : List Nat) : Bool := (F_laws_toFloat32S a_n a).isSome
noncomputable def laws_toFloat32S_v0 (a_n : Nat) (a : List Nat) : Nat := ((F_laws_toFloat32S a_n a).getD default).1
noncomputable def laws_toFloat32S_v1 (a_n : Nat) (a : List Nat) : List Nat := ((F_laws_toFloat32S a_n a).getD default).2
theorem laws_toFloat32S_of {a_n : Nat} {a : List Nat} {r : Nat × (List Nat)} (h : F_laws_toFloat32S a_n a = some r) : laws_toFloat32S_p a_n a = true ∧ laws_toFloat32S_v0 a_n a = r.1 ∧ laws_toFloat32S_v1 a_n a = r.2 := by
  unfold laws_toFloat32S_p laws_toFloat32S_v0 laws_toFloat32S_v1
  rw [h]
  exact ⟨rfl, rfl, rfl⟩
noncomputable def T_impl_areLeast_1 {R : Type} (x : Nat) (k_ : Bool → Option R) : Option R := (grd (impl_isLeast_p x) (k_ (bnot (impl_isLeast_v0 x))))
noncomputable def F_impl_areLeast_1 (x : Nat) : Option (Bool) := T_impl_areLeast_1 x (fun c0_ => some c0_)
theorem T_impl_areLeast_1_nat {R R' : Type} (o : Option R → Option R') (h0 : o none = none) (x : Nat) (k_ : Bool → Option R) : T_impl_areLeast_1 x (fun c0_ => o (k_ c0_)) = o (T_impl_areLeast_1 x k_) := by
  unfold T_impl_areLeast_1
  repeat (first | refine grd_out h0 ?_ | refine br_out ?_ ?_ | rfl | exact h0.symm)
noncomputable def impl_areLeast_1_p (x : Nat) : Bool := (F_impl_areLeast_1 x).isSome
noncomputable def impl_areLeast_1_v0 (x : Nat) : Bool := ((F_impl_areLeast_1 x).getD default)
theorem impl_areLeast_1_of {x : Nat} {r : Bool} (h : F_impl_areLeast_1 x = some r) : impl_areLeast_1_p x = true ∧ impl_areLeast_1_v0 x = r := by
  unfold impl_areLeast_1_p impl_areLeast_1_v0
  rw [h]
  exact ⟨rfl, rfl⟩
noncomputable def T_laws_eqFloat32S_l4 {R : Type} (an : Nat) (bn : Nat) (b0 : List Nat) (b1 : List Nat) (i : Int) (kn_ : Int → Option R) (k0_ : Unit → Option R) (k1_ : Int → Bool → Option R) : Option R := (br (ltI i (Int.ofNat an)) (grd (okIx i an) (grd (okIx i bn) (grd (laws_sameFloat_p (fcvV FloatKind.f32 FloatKind.f64 (gF b0 (ixO 0 i 1))) (fcvV FloatKind.f32 FloatKind.f64 (gF b1 (ixO 0 i 1)))) (br (bnot (laws_sameFloat_v0 (fcvV FloatKind.f32 FloatKind.f64 (gF b0 (ixO 0 i 1))) (fcvV FloatKind.f32 FloatKind.f64 (gF b1 (ixO 0 i 1))))) (k0_ ()) (kn_ (addI IntKind.i64 i 1)))))) (k1_ i (ltI i (Int.ofNat an))))
theorem T_laws_eqFloat32S_l4_nat {R R' : Type} (o : Option R → Option R') (h0 : o none = none) (an : Nat) (bn : Nat) (b0 : List Nat) (b1 : List Nat) (i : Int) (kn_ : Int → Option R) (k0_ : Unit → Option R) (k1_ : Int → Bool → Option R) : T_laws_eqFloat32S_l4 an bn b0 b1 i (fun i' => o (kn_ i')) (fun _ => o (k0_ ())) (fun c0_ c1_ => o (k1_ c0_ c1_)) = o (T_laws_eqFloat32S_l4 an bn b0 b1 i kn_ k0_ k1_) := by
  unfold T_laws_eqFloat32S_l4
  repeat (first | refine grd_out h0 ?_ | refine br_out ?_ ?_ | rfl | exact h0.symm)
noncomputable def L_laws_eqFloat32S_l4 (an : Nat) (bn : Nat) (b0 : List Nat) (b1 : List Nat) : Nat → Int → Option ((Unit) ⊕ (Int × Bool))
  | 0, _ => none
  | n + 1, i => T_laws_eqFloat32S_l4 an bn b0 b1  i  (fun i' => L_laws_eqFloat32S_l4 an bn b0 b1 n i') (fun _ => some (Sum.inl ())) (fun c0_ c1_ => some (Sum.inr (c0_, c1_)))
theorem L_laws_eqFloat32S_l4_succ (an : Nat) (bn : Nat) (b0 : List Nat) (b1 : List Nat) (n : Nat) (i : Int) : L_laws_eqFloat32S_l4 an bn b0 b1 (n + 1) i = T_laws_eqFloat32S_l4 an bn b0 b1  i  (fun i' => L_laws_eqFloat32S_l4 an bn b0 b1 n i') (fun _ => some (Sum.inl ())) (fun c0_ c1_ => some (Sum.inr (c0_, c1_))) := rfl
noncomputable def laws_eqFloat32S_l4_p (an : Nat) (bn : Nat) (b0 : List Nat) (b1 : List Nat) (i : Int) : Bool := (L_laws_eqFloat32S_l4 an bn b0 b1 big i).isSome
noncomputable def laws_eqFloat32S_l4_w0 (an : Nat) (bn : Nat) (b0 : List Nat) (b1 : List Nat) (i : Int) : Bool := oL (L_laws_eqFloat32S_l4 an bn b0 b1 big i)
noncomputable def laws_eqFloat32S_l4_a1_0 (an : Nat) (bn : Nat) (b0 : List Nat) (b1 : List Nat) (i : Int) : Int := ((tR (L_laws_eqFloat32S_l4 an bn b0 b1 big i)).getD default).1
noncomputable def laws_eqFloat32S_l4_a1_1 (an : Nat) (bn : Nat) (b0 : List Nat) (b1 : List Nat) (i : Int) : Bool := ((tR (L_laws_eqFloat32S_l4 an bn b0 b1 big i)).getD default).2
theorem laws_eqFloat32S_l4_of1 {an : Nat} {bn : Nat} {b0 : List Nat} {b1 : List Nat} {i : Int} {m : Nat} {r : Int × Bool} (hm : m = big) (h : L_laws_eqFloat32S_l4 an bn b0 b1 m i = some (Sum.inr r)) : laws_eqFloat32S_l4_p an bn b0 b1 i = true ∧ laws_eqFloat32S_l4_w0 an bn b0 b1 i = false ∧ laws_eqFloat32S_l4_a1_0 an bn b0 b1 i = r.1 ∧ laws_eqFloat32S_l4_a1_1 an bn b0 b1 i = r.2 := by
  subst hm
  unfold laws_eqFloat32S_l4_p laws_eqFloat32S_l4_w0 laws_eqFloat32S_l4_a1_0 laws_eqFloat32S_l4_a1_1
  rw [h]
  exact ⟨rfl, rfl, rfl, rfl⟩
noncomputable def T_laws_eqFloat32S {R : Type} (a_n : Nat) (a : List Nat) (b_n : Nat) (b : List Nat) (k_ : Bool → Option R) : Option R := (br (neI (Int.ofNat a_n) (Int.ofNat b_n)) (k_ Bool.false) (grd (laws_eqFloat32S_l4_p a_n b_n a b 0) (br (laws_eqFloat32S_l4_w0 a_n b_n a b 0) (k_ Bool.false) (k_ Bool.true))))
noncomputable def F_laws_eqFloat32S (a_n : Nat) (a : List Nat) (b_n : Nat) (b : List Nat) : Option (Bool) := T_laws_eqFloat32S a_n a b_n b (fun c0_ => some c0_)
theorem T_laws_eqFloat32S_nat {R R' : Type} (o : Option R → Option R') (h0 : o none = none) (a_n : Nat) (a : List Nat) (b_n : Nat) (b : List Nat) (k_ : Bool → Option R) : T_laws_eqFloat32S a_n a b_n b (fun c0_ => o (k_ c0_)) = o (T_laws_eqFloat32S a_n a b_n b k_) := by
  unfold T_laws_eqFloat32S
  repeat (first | refine grd_out h0 ?_ | refine br_out ?_ ?_ | rfl | exact h0.symm)
noncomputable def laws_eqFloat32S_p (a_n : Nat) (a : List Nat) (b_n : Nat) (b : List Nat) : Bool := (F_laws_eqFloat32S a_n a b_n b).isSome
noncomputable def laws_eqFloat32S_v0 (a_n : Nat) (a : List Nat) (b_n : Nat) (b : List Nat) : Bool := ((F_laws_eqFloat32S a_n a b_n b).getD default)
theorem laws_eqFloat32S_of {a_n : Nat} {a : List Nat} {b_n : Nat} {b : List Nat} {r : Bool} (h : F_laws_eqFloat32S a_n a b_n b = some r) : laws_eqFloat32S_p a_n a b_n b = true ∧ laws_eqFloat32S_v0 a_n a b_n b = r := by
  unfold laws_eqFloat32S_p laws_eqFloat32S_v0
  rw [h]
  exact ⟨rfl, rfl⟩
noncomputable def T_laws_toRose {R : Type} (a_Shares_n : Nat) (a_Shares : List Nat) (a_Speeds_n : Nat) (a_Speeds : List Nat) (k_ : Nat → Nat → (List Nat) → (List Nat) → Option R) : Option R := (grd (laws_toFloat32S_p a_Shares_n (pF a_Shares 0 (muN a_Shares_n 1))) (grd (laws_toFloat32S_p a_Speeds_n (pF a_Speeds 0 (muN a_Speeds_n 1))) (k_ (laws_toFloat32S_v0 a_Shares_n (pF a_Shares 0 (muN a_Shares_n 1))) (laws_toFloat32S_v0 a_Speeds_n (pF a_Speeds 0 (muN a_Speeds_n 1))) (laws_toFloat32S_v1 a_Shares_n (pF a_Shares 0 (muN a_Shares_n 1))) (laws_toFloat32S_v1 a_Speeds_n (pF a_Speeds 0 (muN a_Speeds_n 1))))))
noncomputable def F_laws_toRose (a_Shares_n : Nat) (a_Shares : List Nat) (a_Speeds_n : Nat) (a_Speeds : List Nat) : Option (Nat × Nat × (List Nat) × (List Nat)) := T_laws_toRose a_Shares_n a_Shares a_Speeds_n a_Speeds (fun c0_ c1_ c2_ c3_ => some (c0_, c1_, c2_, c3_))
theorem T_laws_toRose_nat {R R' : Type} (o : Option R → Option R') (h0 : o none = none) (a_Shares_n : Nat) (a_Shares : List Nat) (a_Speeds_n : Nat) (a_Speeds : List Nat) (k_ : Nat → Nat → (List Nat) → (List Nat) → Option R) : T_laws_toRose a_Shares_n a_Shares a_Speeds_n a_Speeds (fun c0_ c1_ c2_ c3_ => o (k_ c0_ c1_ c2_ c3_)) = o (T_laws_toRose a_Shares_n a_Shares a_Speeds_n a_Speeds k_) := by
  unfold T_laws_toRose
  repeat (first | refine grd_out h0 ?_ | refine br_out ?_ ?_ | rfl | exact h0.symm)
noncomputable def laws_toRose_p (a_Shares_n : Nat) (a_Shares : List Nat) (a_Speeds_n : Nat) (a_Speeds : List Nat) : Bool := (F_laws_toRose a_Shares_n a_Shares a_Speeds_n a_Speeds).isSome
noncomputable def laws_toRose_v0 (a_Shares_n : Nat) (a_Shares : List Nat) (a_Speeds_n : Nat) (a_Speeds : List Nat) : Nat := ((F_laws_toRose a_Shares_n a_Shares a_Speeds_n a_Speeds).getD default).1
noncomputable def laws_toRose_v1 (a_Shares_n : Nat) (a_Shares : List Nat) (a_Speeds_n : Nat) (a_Speeds : List Nat) : Nat := ((F_laws_toRose a_Shares_n a_Shares a_Speeds_n a_Speeds).getD default).2.1
noncomputable def laws_toRose_v2 (a_Shares_n : Nat) (a_Shares : List Nat) (a_Speeds_n : Nat) (a_Speeds : List Nat) : List Nat := ((F_laws_toRose a_Shares_n a_Shares a_Speeds_n a_Speeds).getD default).2.2.1
noncomputable def laws_toRose_v3 (a_Shares_n : Nat) (a_Shares : List Nat) (a_Speeds_n : Nat) (a_Speeds : List Nat) : List Nat := ((F_laws_toRose a_Shares_n a_Shares a_Speeds_n a_Speeds).getD default).2.2.2
theorem laws_toRose_of {a_Shares_n : Nat} {a_Shares : List Nat} {a_Speeds_n : Nat} {a_Speeds : List Nat} {r : Nat × Nat × (List Nat) × (List Nat)} (h : F_laws_toRose a_Shares_n a_Shares a_Speeds_n a_Speeds = some r) : laws_toRose_p a_Shares_n a_Shares a_Speeds_n a_Speeds = true ∧ laws_toRose_v0 a_Shares_n a_Shares a_Speeds_n a_Speeds = r.1 ∧ laws_toRose_v1 a_Shares_n a_Shares a_Speeds_n a_Speeds = r.2.1 ∧ laws_toRose_v2 a_Shares_n a_Shares a_Speeds_n a_Speeds = r.2.2.1 ∧ laws_toRose_v3 a_Shares_n a_Shares a_Speeds_n a_Speeds = r.2.2.2 := by
  unfold laws_toRose_p laws_toRose_v0 laws_toRose_v1 laws_toRose_v2 laws_toRose_v3
  rw [h]
  exact ⟨rfl, rfl, rfl, rfl, rfl⟩
noncomputable def T_spec_l04Rose_l5 {R : Type} (n_ : Int) (b0 : List Nat) (b1 : List Nat) (b2_0n : Nat) (b2_1n : Nat) (k : Int) (kn_ : Int → Option R) (k0_ : Unit → Option R) (k1_ : Int → Bool → Option R) : Option R := (br (ltI k n_) (grd (okIx k b2_0n) (grd (spec_l02Least_p (gF b0 (ixO 0 k 1))) (br (bnot (spec_l02Least_v0 (gF b0 (ixO 0 k 1)))) (k0_ ()) (grd (okIx k b2_1n) (grd (spec_l02Least_p (gF b1 (ixO 0 k 1))) (br (bnot (spec_l02Least_v0 (gF b1 (ixO 0 k 1)))) (k0_ ()) (kn_ (addI IntKind.i64 k 1)))))))) (k1_ k (ltI k n_)))
theorem T_spec_l04Rose_l5_nat {R R' : Type} (o : Option R → Option R') (h0 : o none = none) (n_ : Int) (b0 : List Nat) (b1 : List Nat) (b2_0n : Nat) (b2_1n : Nat) (k : Int) (kn_ : Int → Option R) (k0_ : Unit → Option R) (k1_ : Int → Bool → Option R) : T_spec_l04Rose_l5 n_ b0 b1 b2_0n b2_1n k (fun k' => o (kn_ k')) (fun _ => o (k0_ ())) (fun c0_ c1_ => o (k1_ c0_ c1_)) = o (T_spec_l04Rose_l5 n_ b0 b1 b2_0n b2_1n k kn_ k0_ k1_) := by
  unfold T_spec_l04Rose_l5
  repeat (first | refine grd_out h0 ?_ | refine br_out ?_ ?_ | rfl | exact h0.symm)
noncomputable def L_spec_l04Rose_l5 (n_ : Int) (b0 : List Nat) (b1 : List Nat) (b2_0n : Nat) (b2_1n : Nat) : Nat → Int → Option ((Unit) ⊕ (Int × Bool))
  | 0, _ => none
  | n + 1, k => T_spec_l04Rose_l5 n_ b0 b1 b2_0n b2_1n  k  (fun k' => L_spec_l04Rose_l5 n_ b0 b1 b2_0n b2_1n n k') (fun _ => some (Sum.inl ())) (fun c0_ c1_ => some (Sum.inr (c0_, c1_)))
theorem L_spec_l04Rose_l5_succ (n_ : Int) (b0 : List Nat) (b1 : List Nat) (b2_0n : Nat) (b2_1n : Nat) (n : Nat) (k : Int) : L_spec_l04Rose_l5 n_ b0 b1 b2_0n b2_1n (n + 1) k = T_spec_l04Rose_l5 n_ b0 b1 b2_0n b2_1n  k  (fun k' => L_spec_l04Rose_l5 n_ b0 b1 b2_0n b2_1n n k') (fun _ => some (Sum.inl ())) (fun c0_ c1_ => some (Sum.inr (c0_, c1_))) := rfl
noncomputable def spec_l04Rose_l5_p (n_ : Int) (b0 : List Nat) (b1 : List Nat) (b2_0n : Nat) (b2_1n : Nat) (k : Int) : Bool := (L_spec_l04Rose_l5 n_ b0 b1 b2_0n b2_1n big k).isSome
noncomputable def spec_l04Rose_l5_w0 (n_ : Int) (b0 : List Nat) (b1 : List Nat) (b2_0n : Nat) (b2_1n : Nat) (k : Int) : Bool := oL (L_spec_l04Rose_l5 n_ b0 b1 b2_0n b2_1n big k)
noncomputable def spec_l04Rose_l5_a1_0 (n_ : Int) (b0 : List Nat) (b1 : List Nat) (b2_0n : Nat) (b2_1n : Nat) (k : Int) : Int := ((tR (L_spec_l04Rose_l5 n_ b0 b1 b2_0n b2_1n big k)).getD default).1
noncomputable def spec_l04Rose_l5_a1_1 (n_ : Int) (b0 : List Nat) (b1 : List Nat) (b2_0n : Nat) (b2_1n : Nat) (k : Int) : Bool := ((tR (L_spec_l04Rose_l5 n_ b0 b1 b2_0n b2_1n big k)).getD default).2
theorem spec_l04Rose_l5_of0 {n_ : Int} {b0 : List Nat} {b1 : List Nat} {b2_0n : Nat} {b2_1n : Nat} {k : Int} {m : Nat} {r : Unit} (hm : m = big) (h : L_spec_l04Rose_l5 n_ b0 b1 b2_0n b2_1n m k = some (Sum.inl r)) : spec_l04Rose_l5_p n_ b0 b1 b2_0n b2_1n k = true ∧ spec_l04Rose_l5_w0 n_ b0 b1 b2_0n b2_1n k = true := by
  subst hm
  unfold spec_l04Rose_l5_p spec_l04Rose_l5_w0
  rw [h]
  exact ⟨rfl, rfl⟩
theorem spec_l04Rose_l5_of1 {n_ : Int} {b0 : List Nat} {b1 : List Nat} {b2_0n : Nat} {b2_1n : Nat} {k : Int} {m : Nat} {r : Int × Bool} (hm : m = big) (h : L_spec_l04Rose_l5 n_ b0 b1 b2_0n b2_1n m k = some (Sum.inr r)) : spec_l04Rose_l5_p n_ b0 b1 b2_0n b2_1n k = true ∧ spec_l04Rose_l5_w0 n_ b0 b1 b2_0n b2_1n k = false ∧ spec_l04Rose_l5_a1_0 n_ b0 b1 b2_0n b2_1n k = r.1 ∧ spec_l04Rose_l5_a1_1 n_ b0 b1 b2_0n b2_1n k = r.2 := by
  subst hm
  unfold spec_l04Rose_l5_p spec_l04Rose_l5_w0 spec_l04Rose_l5_a1_0 spec_l04Rose_l5_a1_1
  rw [h]
  exact ⟨rfl, rfl, rfl, rfl⟩
noncomputable def T_laws_eqRose {R : Type} (a_Shares_n : Nat) (a_Shares : List Nat) (a_Speeds_n : Nat) (a_Speeds : List Nat) (b_Shares_n : Nat) (b_Shares : List Nat) (b_Speeds_n : Nat) (b_Speeds : List Nat) (k_ : Bool → Option R) : Option R := (grd (laws_eqFloat32S_p a_Shares_n (pF a_Shares 0 (muN a_Shares_n 1)) b_Shares_n (pF b_Shares 0 (muN b_Shares_n 1))) (br (bnot (laws_eqFloat32S_v0 a_Shares_n (pF a_Shares 0 (muN a_Shares_n 1)) b_Shares_n (pF b_Shares 0 (muN b_Shares_n 1)))) (k_ Bool.false) (grd (laws_eqFloat32S_p a_Speeds_n (pF a_Speeds 0 (muN a_Speeds_n 1)) b_Speeds_n (pF b_Speeds 0 (muN b_Speeds_n 1))) (br (bnot (laws_eqFloat32S_v0 a_Speeds_n (pF a_Speeds 0 (muN a_Speeds_n 1)) b_Speeds_n (pF b_Speeds 0 (muN b_Speeds_n 1)))) (k_ Bool.false) (k_ Bool.true)))))
noncomputable def F_laws_eqRose (a_Shares_n : Nat) (a_Shares : List Nat) (a_Speeds_n : Nat) (a_Speeds : List Nat) (b_Shares_n : Nat) (b_Shares : List Nat) (b_Speeds_n : Nat) (b_Speeds : List Nat) : Option (Bool) := T_laws_eqRose a_Shares_n a_Shares a_Speeds_n a_Speeds b_Shares_n b_Shares b_Speeds_n b_Speeds (fun c0_ => some c0_)
theorem T_laws_eqRose_nat {R R' : Type} (o : Option R → Option R') (h0 : o none = none) (a_Shares_n : Nat) (a_Shares : List Nat) (a_Speeds_n : Nat) (a_Speeds : List Nat) (b_Shares_n : Nat) (b_Shares : List Nat) (b_Speeds_n : Nat) (b_Speeds : List Nat) (k_ : Bool → Option R) : T_laws_eqRose a_Shares_n a_Shares a_Speeds_n a_Speeds b_Shares_n b_Shares b_Speeds_n b_Speeds (fun c0_ => o (k_ c0_)) = o (T_laws_eqRose a_Shares_n a_Shares a_Speeds_n a_Speeds b_Shares_n b_Shares b_Speeds_n b_Speeds k_) := by
  unfold T_laws_eqRose
  repeat (first | refine grd_out h0 ?_ | refine br_out ?_ ?_ | rfl | exact h0.symm)
noncomputable def laws_eqRose_p (a_Shares_n : Nat) (a_Shares : List Nat) (a_Speeds_n : Nat) (a_Speeds : List Nat) (b_Shares_n : Nat) (b_Shares : List Nat) (b_Speeds_n : Nat) (b_Speeds : List Nat) : Bool := (F_laws_eqRose a_Shares_n a_Shares a_Speeds_n a_Speeds b_Shares_n b_Shares b_Speeds_n b_Speeds).isSome
noncomputable def laws_eqRose_v0 (a_Shares_n : Nat) (a_Shares : List Nat) (a_Speeds_n : Nat) (a_Speeds : List Nat) (b_Shares_n : Nat) (b_Shares : List Nat) (b_Speeds_n : Nat) (b_Speeds : List Nat) : Bool := ((F_laws_eqRose a_Shares_n a_Shares a_Speeds_n a_Speeds b_Shares_n b_Shares b_Speeds_n b_Speeds).getD default)
theorem laws_eqRose_of {a_Shares_n : Nat} {a_Shares : List Nat} {a_Speeds_n : Nat} {a_Speeds : List Nat} {b_Shares_n : Nat} {b_Shares : List Nat} {b_Speeds_n : Nat} {b_Speeds : List Nat} {r : Bool} (h : F_laws_eqRose a_Shares_n a_Shares a_Speeds_n a_Speeds b_Shares_n b_Shares b_Speeds_n b_Speeds = some r) : laws_eqRose_p a_Shares_n a_Shares a_Speeds_n a_Speeds b_Shares_n b_Shares b_Speeds_n b_Speeds = true ∧ laws_eqRose_v0 a_Shares_n a_Shares a_Speeds_n a_Speeds b_Shares_n b_Shares b_Speeds_n b_Speeds = r := by
  unfold laws_eqRose_p laws_eqRose_v0
  rw [h]
  exact ⟨rfl, rfl⟩
noncomputable def T_spec_l04Rose {R : Type} (r_Shares_n : Nat) (r_Shares : List Nat) (r_Speeds_n : Nat) (r_Speeds : List Nat) (k_ : Bool → Option R) : Option R := (br (ltI (Int.ofNat r_Shares_n) 1) (k_ Bool.false) (br (ltI 16 (Int.ofNat r_Shares_n)) (k_ Bool.false) (br (neI (Int.ofNat r_Speeds_n) (Int.ofNat r_Shares_n)) (k_ Bool.false) (grd (spec_l04Rose_l5_p (Int.ofNat r_Shares_n) r_Shares r_Speeds r_Shares_n r_Speeds_n 0) (br (spec_l04Rose_l5_w0 (Int.ofNat r_Shares_n) r_Shares r_Speeds r_Shares_n r_Speeds_n 0) (k_ Bool.false) (k_ Bool.true))))))
noncomputable def F_spec_l04Rose (r_Shares_n : Nat) (r_Shares : List Nat) (r_Speeds_n : Nat) (r_Speeds : List Nat) : Option (Bool) := T_spec_l04Rose r_Shares_n r_Shares r_Speeds_n r_Speeds (fun c0_ => some c0_)
theorem T_spec_l04Rose_nat {R R' : Type} (o : Option R → Option R') (h0 : o none = none) (r_Shares_n : Nat) (r_Shares : List Nat) (r_Speeds_n : Nat) (r_Speeds : List Nat) (k_ : Bool → Option R) : T_spec_l04Rose r_Shares_n r_Shares r_Speeds_n r_Speeds (fun c0_ => o (k_ c0_)) = o (T_spec_l04Rose r_Shares_n r_Shares r_Speeds_n r_Speeds k_) := by
  unfold T_spec_l04Rose
  repeat (first | refine grd_out h0 ?_ | refine br_out ?_ ?_ | rfl | exact h0.symm)
noncomputable def spec_l04Rose_p (r_Shares_n : Nat) (r_Shares : List Nat) (r_Speeds_n : Nat) (r_Speeds : List Nat) : Bool := (F_spec_l04Rose r_Shares_n r_Shares r_Speeds_n r_Speeds).isSome
noncomputable def spec_l04Rose_v0 (r_Shares_n : Nat) (r_Shares : List Nat) (r_Speeds_n : Nat) (r_Speeds : List Nat) : Bool := ((F_spec_l04Rose r_Shares_n r_Shares r_Speeds_n r_Speeds).getD default)
theorem spec_l04Rose_of {r_Shares_n : Nat} {r_Shares : List Nat} {r_Speeds_n : Nat} {r_Speeds : List Nat} {r : Bool} (h : F_spec_l04Rose r_Shares_n r_Shares r_Speeds_n r_Speeds = some r) : spec_l04Rose_p r_Shares_n r_Shares r_Speeds_n r_Speeds = true ∧ spec_l04Rose_v0 r_Shares_n r_Shares r_Speeds_n r_Speeds = r := by
  unfold spec_l04Rose_p spec_l04Rose_v0
  rw [h]
  exact ⟨rfl, rfl⟩
noncomputable def T_slices_IndexFunc_sf32_f32_areLeast_1_l2 {R : Type} (sn : Nat) (t7 : Int) (b0 : List Nat) (t8 : Int) (kn_ : Int → Option R) (k0_ : Int → Option R) (k1_ : Int → Bool → Option R) : Option R := (br (ltI t8 t7) (grd (okIx t8 sn) (grd (impl_areLeast_1_p (gF b0 (ixO 0 t8 1))) (br (impl_areLeast_1_v0 (gF b0 (ixO 0 t8 1))) (k0_ t8) (kn_ (addI IntKind.i64 t8 1))))) (k1_ t8 (ltI t8 t7)))
theorem T_slices_IndexFunc_sf32_f32_areLeast_1_l2_nat {R R' : Type} (o : Option R → Option R') (h0 : o none = none) (sn : Nat) (t7 : Int) (b0 : List Nat) (t8 : Int) (kn_ : Int → Option R) (k0_ : Int → Option R) (k1_ : Int → Bool → Option R) : T_slices_IndexFunc_sf32_f32_areLeast_1_l2 sn t7 b0 t8 (fun t8' => o (kn_ t8')) (fun c0_ => o (k0_ c0_)) (fun c0_ c1_ => o (k1_ c0_ c1_)) = o (T_slices_IndexFunc_sf32_f32_areLeast_1_l2 sn t7 b0 t8 kn_ k0_ k1_) := by
  unfold T_slices_IndexFunc_sf32_f32_areLeast_1_l2
  repeat (first | refine grd_out h0 ?_ | refine br_out ?_ ?_ | rfl | exact h0.symm)
noncomputable def L_slices_IndexFunc_sf32_f32_areLeast_1_l2 (sn : Nat) (t7 : Int) (b0 : List Nat) : Nat → Int → Option ((Int) ⊕ (Int × Bool))
  | 0, _ => none
  | n + 1, t8 => T_slices_IndexFunc_sf32_f32_areLeast_1_l2 sn t7 b0  t8  (fun t8' => L_slices_IndexFunc_sf32_f32_areLeast_1_l2 sn t7 b0 n t8') (fun c0_ => some (Sum.inl c0_)) (fun c0_ c1_ => some (Sum.inr (c0_, c1_)))
theorem L_slices_IndexFunc_sf32_f32_areLeast_1_l2_succ (sn : Nat) (t7 : Int) (b0 : List Nat) (n : Nat) (t8 : Int) : L_slices_IndexFunc_sf32_f32_areLeast_1_l2 sn t7 b0 (n + 1) t8 = T_slices_IndexFunc_sf32_f32_areLeast_1_l2 sn t7 b0  t8  (fun t8' => L_slices_IndexFunc_sf32_f32_areLeast_1_l2 sn t7 b0 n t8') (fun c0_ => some (Sum.inl c0_)) (fun c0_ c1_ => some (Sum.inr (c0_, c1_))) := rfl
noncomputable def slices_IndexFunc_sf32_f32_areLeast_1_l2_p (sn : Nat) (t7 : Int) (b0 : List Nat) (t8 : Int) : Bool := (L_slices_IndexFunc_sf32_f32_areLeast_1_l2 sn t7 b0 big t8).isSome
noncomputable def slices_IndexFunc_sf32_f32_areLeast_1_l2_w0 (sn : Nat) (t7 : Int) (b0 : List Nat) (t8 : Int) : Bool := oL (L_slices_IndexFunc_sf32_f32_areLeast_1_l2 sn t7 b0 big t8)
noncomputable def slices_IndexFunc_sf32_f32_areLeast_1_l2_a0_0 (sn : Nat) (t7 : Int) (b0 : List Nat) (t8 : Int) : Int := ((tL (L_slices_IndexFunc_sf32_f32_areLeast_1_l2 sn t7 b0 big t8)).getD default)
noncomputable def slices_IndexFunc_sf32_f32_areLeast_1_l2_a1_0 (sn : Nat) (t7 : Int) (b0 : List Nat) (t8 : Int) : Int := ((tR (L_slices_IndexFunc_sf32_f32_areLeast_1_l2 sn t7 b0 big t8)).getD default).1
noncomputable def slices_IndexFunc_sf32_f32_areLeast_1_l2_a1_1 (sn : Nat) (t7 : Int) (b0 : List Nat) (t8 : Int) : Bool := ((tR (L_slices_IndexFunc_sf32_f32_areLeast_1_l2 sn t7 b0 big t8)).getD default).2
theorem slices_IndexFunc_sf32_f32_areLeast_1_l2_of0 {sn : Nat} {t7 : Int} {b0 : List Nat} {t8 : Int} {m : Nat} {r : Int} (hm : m = big) (h : L_slices_IndexFunc_sf32_f32_areLeast_1_l2 sn t7 b0 m t8 = some (Sum.inl r)) : slices_IndexFunc_sf32_f32_areLeast_1_l2_p sn t7 b0 t8 = true ∧ slices_IndexFunc_sf32_f32_areLeast_1_l2_w0 sn t7 b0 t8 = true ∧ slices_IndexFunc_sf32_f32_areLeast_1_l2_a0_0 sn t7 b0 t8 = r := by
  subst hm
  unfold slices_IndexFunc_sf32_f32_areLeast_1_l2_p slices_IndexFunc_sf32_f32_areLeast_1_l2_w0 slices_IndexFunc_sf32_f32_areLeast_1_l2_a0_0
  rw [h]
  exact ⟨rfl, rfl, rfl⟩
theorem slices_IndexFunc_sf32_f32_areLeast_1_l2_of1 {sn : Nat} {t7 : Int} {b0 : List Nat} {t8 : Int} {m : Nat} {r : Int × Bool} (hm : m = big) (h : L_slices_IndexFunc_sf32_f32_areLeast_1_l2 sn t7 b0 m t8 = some (Sum.inr r)) : slices_IndexFunc_sf32_f32_areLeast_1_l2_p sn t7 b0 t8 = true ∧ slices_IndexFunc_sf32_f32_areLeast_1_l2_w0 sn t7 b0 t8 = false ∧ slices_IndexFunc_sf32_f32_areLeast_1_l2_a1_0 sn t7 b0 t8 = r.1 ∧ slices_IndexFunc_sf32_f32_areLeast_1_l2_a1_1 sn t7 b0 t8 = r.2 := by
  subst hm
  unfold slices_IndexFunc_sf32_f32_areLeast_1_l2_p slices_IndexFunc_sf32_f32_areLeast_1_l2_w0 slices_IndexFunc_sf32_f32_areLeast_1_l2_a1_0 slices_IndexFunc_sf32_f32_areLeast_1_l2_a1_1
  rw [h]
  exact ⟨rfl, rfl, rfl, rfl⟩
noncomputable def T_slices_IndexFunc_sf32_f32_areLeast_1 {R : Type} (s_n : Nat) (s : List Nat) (k_ : Int → Option R) : Option R := (grd (slices_IndexFunc_sf32_f32_areLeast_1_l2_p s_n (Int.ofNat s_n) s 0) (br (slices_IndexFunc_sf32_f32_areLeast_1_l2_w0 s_n (Int.ofNat s_n) s 0) (k_ (slices_IndexFunc_sf32_f32_areLeast_1_l2_a0_0 s_n (Int.ofNat s_n) s 0)) (k_ (Int.negSucc 0))))
noncomputable def F_slices_IndexFunc_sf32_f32_areLeast_1 (s_n : Nat) (s : List Nat) : Option (Int) := T_slices_IndexFunc_sf32_f32_areLeast_1 s_n s (fun c0_ => some c0_)
theorem T_slices_IndexFunc_sf32_f32_areLeast_1_nat {R R' : Type} (o : Option R → Option R') (h0 : o none = none) (s_n : Nat) (s : List Nat) (k_ : Int → Option R) : T_slices_IndexFunc_sf32_f32_areLeast_1 s_n s (fun c0_ => o (k_ c0_)) = o (T_slices_IndexFunc_sf32_f32_areLeast_1 s_n s k_) := by
  unfold T_slices_IndexFunc_sf32_f32_areLeast_1
  repeat (first | refine grd_out h0 ?_ | refine br_out ?_ ?_ | rfl | exact h0.symm)
noncomputable def slices_IndexFunc_sf32_f32_areLeast_1_p (s_n : Nat) (s : List Nat) : Bool := (F_slices_IndexFunc_sf32_f32_areLeast_1 s_n s).isSome
noncomputable def slices_IndexFunc_sf32_f32_areLeast_1_v0 (s_n : Nat) (s : List Nat) : Int := ((F_slices_IndexFunc_sf32_f32_areLeast_1 s_n s).getD default)
theorem slices_IndexFunc_sf32_f32_areLeast_1_of {s_n : Nat} {s : List Nat} {r : Int} (h : F_slices_IndexFunc_sf32_f32_areLeast_1 s_n s = some r) : slices_IndexFunc_sf32_f32_areLeast_1_p s_n s = true ∧ slices_IndexFunc_sf32_f32_areLeast_1_v0 s_n s = r := by
  unfold slices_IndexFunc_sf32_f32_areLeast_1_p slices_IndexFunc_sf32_f32_areLeast_1_v0
  rw [h]
  exact ⟨rfl, rfl⟩
noncomputable def T_slices_ContainsFunc_sf32_f32_areLeast_1 {R : Type} (s_n : Nat) (s : List Nat) (k_ : Bool → Option R) : Option R := (grd (slices_IndexFunc_sf32_f32_areLeast_1_p s_n (pF s 0 (muN s_n 1))) (k_ (leI 0 (slices_IndexFunc_sf32_f32_areLeast_1_v0 s_n (pF s 0 (muN s_n 1))))))
noncomputable def F_slices_ContainsFunc_sf32_f32_areLeast_1 (s_n : Nat) (s : List Nat) : Option (Bool) := T_slices_ContainsFunc_sf32_f32_areLeast_1 s_n s (fun c0_ => some c0_)
theorem T_slices_ContainsFunc_sf32_f32_areLeast_1_nat {R R' : Type} (o : Option R → Option R') (h0 : o none = none) (s_n : Nat) (s : List Nat) (k_ : Bool → Option R) : T_slices_ContainsFunc_sf32_f32_areLeast_1 s_n s (fun c0_ => o (k_ c0_)) = o (T_slices_ContainsFunc_sf32_f32_areLeast_1 s_n s k_) := by
  unfold T_slices_ContainsFunc_sf32_f32_areLeast_1
  repeat (first | refine grd_out h0 ?_ | refine br_out ?_ ?_ | rfl | exact h0.symm)
noncomputable def slices_ContainsFunc_sf32_f32_areLeast_1_p (s_n : Nat) (s : List Nat) : Bool := (F_slices_ContainsFunc_sf32_f32_areLeast_1 s_n s).isSome
noncomputable def slices_ContainsFunc_sf32_f32_areLeast_1_v0 (s_n : Nat) (s : List Nat) : Bool := ((F_slices_ContainsFunc_sf32_f32_areLeast_1 s_n s).getD default)
theorem slices_ContainsFunc_sf32_f32_areLeast_1_of {s_n : Nat} {s : List Nat} {r : Bool} (h : F_slices_ContainsFunc_sf32_f32_areLeast_1 s_n s = some r) : slices_ContainsFunc_sf32_f32_areLeast_1_p s_n s = true ∧ slices_ContainsFunc_sf32_f32_areLeast_1_v0 s_n s = r := by
  unfold slices_ContainsFunc_sf32_f32_areLeast_1_p slices_ContainsFunc_sf32_f32_areLeast_1_v0
  rw [h]
  exact ⟨rfl, rfl⟩
noncomputable def T_spec_StrongestSector_l6 {R : Type} (b0 : List Nat) (b1 : List Nat) (b2_0n : Nat) (b2_1n : Nat) (best : Int) (most : Nat) (k : Int) (kn_ : Int → Nat → Int → Option R) (k0_ : Unit → Option R) (k1_ : Int → Nat → Int → Bool → Option R) : Option R := (br (ltI k (Int.ofNat b2_0n)) (grd (okIx k b2_0n) (grd (okIx k b2_1n) (grd (spec_l04Power_p 1065353216 (gF b1 (ixO 0 k 1))) (grd (spec_l01Finite_p (fop BinOp.mul FloatKind.f32 (gF b0 (ixO 0 k 1)) (spec_l04Power_v0 1065353216 (gF b1 (ixO 0 k 1))))) (br (bnot (spec_l01Finite_v0 (fop BinOp.mul FloatKind.f32 (gF b0 (ixO 0 k 1)) (spec_l04Power_v0 1065353216 (gF b1 (ixO 0 k 1)))))) (k0_ ()) (br (eqI k 0) (kn_ k (fop BinOp.mul FloatKind.f32 (gF b0 (ixO 0 k 1)) (spec_l04Power_v0 1065353216 (gF b1 (ixO 0 k 1)))) (addI IntKind.i64 k 1)) (br (fcmp BinOp.gtr FloatKind.f32 (fop BinOp.mul FloatKind.f32 (gF b0 (ixO 0 k 1)) (spec_l04Power_v0 1065353216 (gF b1 (ixO 0 k 1)))) most) (kn_ k (fop BinOp.mul FloatKind.f32 (gF b0 (ixO 0 k 1)) (spec_l04Power_v0 1065353216 (gF b1 (ixO 0 k 1)))) (addI IntKind.i64 k 1)) (kn_ best most (addI IntKind.i64 k 1))))))))) (k1_ best most k (ltI k (Int.ofNat b2_0n))))
theorem T_spec_StrongestSector_l6_nat {R R' : Type} (o : Option R → Option R') (h0 : o none = none) (b0 : List Nat) (b1 : List Nat) (b2_0n : Nat) (b2_1n : Nat) (best : Int) (most : Nat) (k : Int) (kn_ : Int → Nat → Int → Option R) (k0_ : Unit → Option R) (k1_ : Int → Nat → Int → Bool → Option R) : T_spec_StrongestSector_l6 b0 b1 b2_0n b2_1n best most k (fun best' most' k' => o (kn_ best' most' k')) (fun _ => o (k0_ ())) (fun c0_ c1_ c2_ c3_ => o (k1_ c0_ c1_ c2_ c3_)) = o (T_spec_StrongestSector_l6 b0 b1 b2_0n b2_1n best most k kn_ k0_ k1_) := by
  unfold T_spec_StrongestSector_l6
  repeat (first | refine grd_out h0 ?_ | refine br_out ?_ ?_ | rfl | exact h0.symm)
noncomputable def L_spec_StrongestSector_l6 (b0 : List Nat) (b1 : List Nat) (b2_0n : Nat) (b2_1n : Nat) : Nat → Int → Nat → Int → Option ((Unit) ⊕ (Int × Nat × Int × Bool))
  | 0, _, _, _ => none
  | n + 1, best, most, k => T_spec_StrongestSector_l6 b0 b1 b2_0n b2_1n  best most k  (fun best' most' k' => L_spec_StrongestSector_l6 b0 b1 b2_0n b2_1n n best' most' k') (fun _ => some (Sum.inl ())) (fun c0_ c1_ c2_ c3_ => some (Sum.inr (c0_, c1_, c2_, c3_)))
theorem L_spec_StrongestSector_l6_succ (b0 : List Nat) (b1 : List Nat) (b2_0n : Nat) (b2_1n : Nat) (n : Nat) (best : Int) (most : Nat) (k : Int) : L_spec_StrongestSector_l6 b0 b1 b2_0n b2_1n (n + 1) best most k = T_spec_StrongestSector_l6 b0 b1 b2_0n b2_1n  best most k  (fun best' most' k' => L_spec_StrongestSector_l6 b0 b1 b2_0n b2_1n n best' most' k') (fun _ => some (Sum.inl ())) (fun c0_ c1_ c2_ c3_ => some (Sum.inr (c0_, c1_, c2_, c3_))) := rfl
noncomputable def spec_StrongestSector_l6_p (b0 : List Nat) (b1 : List Nat) (b2_0n : Nat) (b2_1n : Nat) (best : Int) (most : Nat) (k : Int) : Bool := (L_spec_StrongestSector_l6 b0 b1 b2_0n b2_1n big best most k).isSome
noncomputable def spec_StrongestSector_l6_w0 (b0 : List Nat) (b1 : List Nat) (b2_0n : Nat) (b2_1n : Nat) (best : Int) (most : Nat) (k : Int) : Bool := oL (L_spec_StrongestSector_l6 b0 b1 b2_0n b2_1n big best most k)
noncomputable def spec_StrongestSector_l6_a1_0 (b0 : List Nat) (b1 : List Nat) (b2_0n : Nat) (b2_1n : Nat) (best : Int) (most : Nat) (k : Int) : Int := ((tR (L_spec_StrongestSector_l6 b0 b1 b2_0n b2_1n big best most k)).getD default).1
noncomputable def spec_StrongestSector_l6_a1_1 (b0 : List Nat) (b1 : List Nat) (b2_0n : Nat) (b2_1n : Nat) (best : Int) (most : Nat) (k : Int) : Nat := ((tR (L_spec_StrongestSector_l6 b0 b1 b2_0n b2_1n big best most k)).getD default).2.1
noncomputable def spec_StrongestSector_l6_a1_2 (b0 : List Nat) (b1 : List Nat) (b2_0n : Nat) (b2_1n : Nat) (best : Int) (most : Nat) (k : Int) : Int := ((tR (L_spec_StrongestSector_l6 b0 b1 b2_0n b2_1n big best most k)).getD default).2.2.1
noncomputable def spec_StrongestSector_l6_a1_3 (b0 : List Nat) (b1 : List Nat) (b2_0n : Nat) (b2_1n : Nat) (best : Int) (most : Nat) (k : Int) : Bool := ((tR (L_spec_StrongestSector_l6 b0 b1 b2_0n b2_1n big best most k)).getD default).2.2.2
theorem spec_StrongestSector_l6_of0 {b0 : List Nat} {b1 : List Nat} {b2_0n : Nat} {b2_1n : Nat} {best : Int} {most : Nat} {k : Int} {m : Nat} {r : Unit} (hm : m = big) (h : L_spec_StrongestSector_l6 b0 b1 b2_0n b2_1n m best most k = some (Sum.inl r)) : spec_StrongestSector_l6_p b0 b1 b2_0n b2_1n best most k = true ∧ spec_StrongestSector_l6_w0 b0 b1 b2_0n b2_1n best most k = true := by
  subst hm
  unfold spec_StrongestSector_l6_p spec_StrongestSector_l6_w0
  rw [h]
  exact ⟨rfl, rfl⟩
theorem spec_StrongestSector_l6_of1 {b0 : List Nat} {b1 : List Nat} {b2_0n : Nat} {b2_1n : Nat} {best : Int} {most : Nat} {k : Int} {m : Nat} {r : Int × Nat × Int × Bool} (hm : m = big) (h : L_spec_StrongestSector_l6 b0 b1 b2_0n b2_1n m best most k = some (Sum.inr r)) : spec_StrongestSector_l6_p b0 b1 b2_0n b2_1n best most k = true ∧ spec_StrongestSector_l6_w0 b0 b1 b2_0n b2_1n best most k = false ∧ spec_StrongestSector_l6_a1_0 b0 b1 b2_0n b2_1n best most k = r.1 ∧ spec_StrongestSector_l6_a1_1 b0 b1 b2_0n b2_1n best most k = r.2.1 ∧ spec_StrongestSector_l6_a1_2 b0 b1 b2_0n b2_1n best most k = r.2.2.1 ∧ spec_StrongestSector_l6_a1_3 b0 b1 b2_0n b2_1n best most k = r.2.2.2 := by
  subst hm
  unfold spec_StrongestSector_l6_p spec_StrongestSector_l6_w0 spec_StrongestSector_l6_a1_0 spec_StrongestSector_l6_a1_1 spec_StrongestSector_l6_a1_2 spec_StrongestSector_l6_a1_3
  rw [h]
  exact ⟨rfl, rfl, rfl, rfl, rfl, rfl⟩
noncomputable def T_spec_StrongestSector {R : Type} (r_Shares_n : Nat) (r_Shares : List Nat) (r_Speeds_n : Nat) (r_Speeds : List Nat) (k_ : Int → Nat → Bool → Option R) : Option R := (grd (spec_l04Rose_p r_Shares_n (pF r_Shares 0 (muN r_Shares_n 1)) r_Speeds_n (pF r_Speeds 0 (muN r_Speeds_n 1))) (br (bnot (spec_l04Rose_v0 r_Shares_n (pF r_Shares 0 (muN r_Shares_n 1)) r_Speeds_n (pF r_Speeds 0 (muN r_Speeds_n 1)))) (k_ 0 0 Bool.false) (grd (spec_StrongestSector_l6_p r_Shares r_Speeds r_Shares_n r_Speeds_n 0 0 0) (br (spec_StrongestSector_l6_w0 r_Shares r_Speeds r_Shares_n r_Speeds_n 0 0 0) (k_ 0 0 Bool.false) (k_ (spec_StrongestSector_l6_a1_0 r_Shares r_Speeds r_Shares_n r_Speeds_n 0 0 0) (spec_StrongestSector_l6_a1_1 r_Shares r_Speeds r_Shares_n r_Speeds_n 0 0 0) Bool.true)))))
noncomputable def F_spec_StrongestSector (r_Shares_n : Nat) (r_Shares : List Nat) (r_Speeds_n : Nat) (r_Speeds : List Nat) : Option (Int × Nat × Bool) := T_spec_StrongestSector r_Shares_n r_Shares r_Speeds_n r_Speeds (fun c0_ c1_ c2_ => some (c0_, c1_, c2_))
theorem T_spec_StrongestSector_nat {R R' : Type} (o : Option R → Option R') (h0 : o none = none) (r_Shares_n : Nat) (r_Shares : List Nat) (r_Speeds_n : Nat) (r_Speeds : List Nat) (k_ : Int → Nat → Bool → Option R) : T_spec_StrongestSector r_Shares_n r_Shares r_Speeds_n r_Speeds (fun c0_ c1_ c2_ => o (k_ c0_ c1_ c2_)) = o (T_spec_StrongestSector r_Shares_n r_Shares r_Speeds_n r_Speeds k_) := by
  unfold T_spec_StrongestSector
  repeat (first | refine grd_out h0 ?_ | refine br_out ?_ ?_ | rfl | exact h0.symm)
noncomputable def spec_StrongestSector_p (r_Shares_n : Nat) (r_Shares : List Nat) (r_Speeds_n : Nat) (r_Speeds : List Nat) : Bool := (F_spec_StrongestSector r_Shares_n r_Shares r_Speeds_n r_Speeds).isSome
noncomputable def spec_StrongestSector_v0 (r_Shares_n : Nat) (r_Shares : List Nat) (r_Speeds_n : Nat) (r_Speeds : List Nat) : Int := ((F_spec_StrongestSector r_Shares_n r_Shares r_Speeds_n r_Speeds).getD default).1
noncomputable def spec_StrongestSector_v1 (r_Shares_n : Nat) (r_Shares : List Nat) (r_Speeds_n : Nat) (r_Speeds : List Nat) : Nat := ((F_spec_StrongestSector r_Shares_n r_Shares r_Speeds_n r_Speeds).getD default).2.1
noncomputable def spec_StrongestSector_v2 (r_Shares_n : Nat) (r_Shares : List Nat) (r_Speeds_n : Nat) (r_Speeds : List Nat) : Bool := ((F_spec_StrongestSector r_Shares_n r_Shares r_Speeds_n r_Speeds).getD default).2.2
theorem spec_StrongestSector_of {r_Shares_n : Nat} {r_Shares : List Nat} {r_Speeds_n : Nat} {r_Speeds : List Nat} {r : Int × Nat × Bool} (h : F_spec_StrongestSector r_Shares_n r_Shares r_Speeds_n r_Speeds = some r) : spec_StrongestSector_p r_Shares_n r_Shares r_Speeds_n r_Speeds = true ∧ spec_StrongestSector_v0 r_Shares_n r_Shares r_Speeds_n r_Speeds = r.1 ∧ spec_StrongestSector_v1 r_Shares_n r_Shares r_Speeds_n r_Speeds = r.2.1 ∧ spec_StrongestSector_v2 r_Shares_n r_Shares r_Speeds_n r_Speeds = r.2.2 := by
  unfold spec_StrongestSector_p spec_StrongestSector_v0 spec_StrongestSector_v1 spec_StrongestSector_v2
  rw [h]
  exact ⟨rfl, rfl, rfl, rfl⟩
noncomputable def T_impl_areLeast {R : Type} (list_n : Nat) (list : List Nat) (k_ : Bool → Option R) : Option R := (grd (slices_ContainsFunc_sf32_f32_areLeast_1_p list_n (pF list 0 (muN list_n 1))) (k_ (bnot (slices_ContainsFunc_sf32_f32_areLeast_1_v0 list_n (pF list 0 (muN list_n 1))))))
noncomputable def F_impl_areLeast (list_n : Nat) (list : List Nat) : Option (Bool) := T_impl_areLeast list_n list (fun c0_ => some c0_)
theorem T_impl_areLeast_nat {R R' : Type} (o : Option R → Option R') (h0 : o none = none) (list_n : Nat) (list : List Nat) (k_ : Bool → Option R) : T_impl_areLeast list_n list (fun c0_ => o (k_ c0_)) = o (T_impl_areLeast list_n list k_) := by
  unfold T_impl_areLeast
  repeat (first | refine grd_out h0 ?_ | refine br_out ?_ ?_ | rfl | exact h0.symm)
noncomputable def impl_areLeast_p (list_n : Nat) (list : List Nat) : Bool := (F_impl_areLeast list_n list).isSome
noncomputable def impl_areLeast_v0 (list_n : Nat) (list : List Nat) : Bool := ((F_impl_areLeast list_n list).getD default)
theorem impl_areLeast_of {list_n : Nat} {list : List Nat} {r : Bool} (h : F_impl_areLeast list_n list = some r) : impl_areLeast_p list_n list = true ∧ impl_areLeast_v0 list_n list = r := by
  unfold impl_areLeast_p impl_areLeast_v0
  rw [h]
  exact ⟨rfl, rfl⟩
noncomputable def T_impl_ValidRose {R : Type} (r_Shares_n : Nat) (r_Shares : List Nat) (r_Speeds_n : Nat) (r_Speeds : List Nat) (k_ : Bool → Option R) : Option R := (br (leI 1 (Int.ofNat r_Shares_n)) (br (leI (Int.ofNat r_Shares_n) 16) (br (eqI (Int.ofNat r_Speeds_n) (Int.ofNat r_Shares_n)) (grd (impl_areLeast_p r_Shares_n (pF r_Shares 0 (muN r_Shares_n 1))) (br (impl_areLeast_v0 r_Shares_n (pF r_Shares 0 (muN r_Shares_n 1))) (grd (impl_areLeast_p r_Speeds_n (pF r_Speeds 0 (muN r_Speeds_n 1))) (k_ (impl_areLeast_v0 r_Speeds_n (pF r_Speeds 0 (muN r_Speeds_n 1))))) (k_ Bool.false))) (k_ Bool.false)) (k_ Bool.false)) (k_ Bool.false))
noncomputable def F_impl_ValidRose (r_Shares_n : Nat) (r_Shares : List Nat) (r_Speeds_n : Nat) (r_Speeds : List Nat) : Option (Bool) := T_impl_ValidRose r_Shares_n r_Shares r_Speeds_n r_Speeds (fun c0_ => some c0_)
theorem T_impl_ValidRose_nat {R R' : Type} (o : Option R → Option R') (h0 : o none = none) (r_Shares_n : Nat) (r_Shares : List Nat) (r_Speeds_n : Nat) (r_Speeds : List Nat) (k_ : Bool → Option R) : T_impl_ValidRose r_Shares_n r_Shares r_Speeds_n r_Speeds (fun c0_ => o (k_ c0_)) = o (T_impl_ValidRose r_Shares_n r_Shares r_Speeds_n r_Speeds k_) := by
  unfold T_impl_ValidRose
  repeat (first | refine grd_out h0 ?_ | refine br_out ?_ ?_ | rfl | exact h0.symm)
noncomputable def impl_ValidRose_p (r_Shares_n : Nat) (r_Shares : List Nat) (r_Speeds_n : Nat) (r_Speeds : List Nat) : Bool := (F_impl_ValidRose r_Shares_n r_Shares r_Speeds_n r_Speeds).isSome
noncomputable def impl_ValidRose_v0 (r_Shares_n : Nat) (r_Shares : List Nat) (r_Speeds_n : Nat) (r_Speeds : List Nat) : Bool := ((F_impl_ValidRose r_Shares_n r_Shares r_Speeds_n r_Speeds).getD default)
theorem impl_ValidRose_of {r_Shares_n : Nat} {r_Shares : List Nat} {r_Speeds_n : Nat} {r_Speeds : List Nat} {r : Bool} (h : F_impl_ValidRose r_Shares_n r_Shares r_Speeds_n r_Speeds = some r) : impl_ValidRose_p r_Shares_n r_Shares r_Speeds_n r_Speeds = true ∧ impl_ValidRose_v0 r_Shares_n r_Shares r_Speeds_n r_Speeds = r := by
  unfold impl_ValidRose_p impl_ValidRose_v0
  rw [h]
  exact ⟨rfl, rfl⟩
noncomputable def T_impl_AirPower {R : Type} (density : Nat) (speed : Nat) (k_ : Nat → Bool → Option R) : Option R := (grd (impl_areLeast_p 2 (pF [density, speed] 0 (muN 2 1))) (br (bnot (impl_areLeast_v0 2 (pF [density, speed] 0 (muN 2 1)))) (k_ 0 Bool.false) (grd (impl_checked_p (fop BinOp.mul FloatKind.f32 (fop BinOp.mul FloatKind.f32 (fop BinOp.mul FloatKind.f32 (fop BinOp.quo FloatKind.f32 density 1073741824) speed) speed) speed)) (k_ (impl_checked_v0 (fop BinOp.mul FloatKind.f32 (fop BinOp.mul FloatKind.f32 (fop BinOp.mul FloatKind.f32 (fop BinOp.quo FloatKind.f32 density 1073741824) speed) speed) speed)) (impl_checked_v1 (fop BinOp.mul FloatKind.f32 (fop BinOp.mul FloatKind.f32 (fop BinOp.mul FloatKind.f32 (fop BinOp.quo FloatKind.f32 density 1073741824) speed) speed) speed))))))
noncomputable def F_impl_AirPower (density : Nat) (speed : Nat) : Option (Nat × Bool) := T_impl_AirPower density speed (fun c0_ c1_ => some (c0_, c1_))
theorem T_impl_AirPower_nat {R R' : Type} (o : Option R → Option R') (h0 : o none = none) (density : Nat) (speed : Nat) (k_ : Nat → Bool → Option R) : T_impl_AirPower density speed (fun c0_ c1_ => o (k_ c0_ c1_)) = o (T_impl_AirPower density speed k_) := by
  unfold T_impl_AirPower
  repeat (first | refine grd_out h0 ?_ | refine br_out ?_ ?_ | rfl | exact h0.symm)
noncomputable def impl_AirPower_p (density : Nat) (speed : Nat) : Bool := (F_impl_AirPower density speed).isSome
noncomputable def impl_AirPower_v0 (density : Nat) (speed : Nat) : Nat := ((F_impl_AirPower density speed).getD default).1
noncomputable def impl_AirPower_v1 (density : Nat) (speed : Nat) : Bool := ((F_impl_AirPower density speed).getD default).2
theorem impl_AirPower_of {density : Nat} {speed : Nat} {r : Nat × Bool} (h : F_impl_AirPower density speed = some r) : impl_AirPower_p density speed = true ∧ impl_AirPower_v0 density speed = r.1 ∧ impl_AirPower_v1 density speed = r.2 := by
  unfold impl_AirPower_p impl_AirPower_v0 impl_AirPower_v1
  rw [h]
  exact ⟨rfl, rfl, rfl⟩
noncomputable def T_impl_StrongestSector_l5 {R : Type} (t16n : Nat) (t17 : Int) (b0 : List Nat) (b1 : List Nat) (b2_1n : Nat) (best : Int) (most : Nat) (t18 : Int) (kn_ : Int → Nat → Int → Option R) (k0_ : Unit → Option R) (k1_ : Int → Nat → Int → Bool → Option R) : Option R := (br (ltI t18 t17) (grd (okIx t18 t16n) (grd (okIx t18 b2_1n) (grd (impl_AirPower_p 1065353216 (gF b1 (ixO 0 t18 1))) (br (bnot (impl_AirPower_v1 1065353216 (gF b1 (ixO 0 t18 1)))) (k0_ ()) (grd (impl_IsFinite_p (fop BinOp.mul FloatKind.f32 (gF b0 (ixO 0 t18 1)) (impl_AirPower_v0 1065353216 (gF b1 (ixO 0 t18 1))))) (br (bnot (impl_IsFinite_v0 (fop BinOp.mul FloatKind.f32 (gF b0 (ixO 0 t18 1)) (impl_AirPower_v0 1065353216 (gF b1 (ixO 0 t18 1)))))) (k0_ ()) (br (eqI t18 0) (kn_ t18 (fop BinOp.mul FloatKind.f32 (gF b0 (ixO 0 t18 1)) (impl_AirPower_v0 1065353216 (gF b1 (ixO 0 t18 1)))) (addI IntKind.i64 t18 1)) (br (fcmp BinOp.gtr FloatKind.f32 (fop BinOp.mul FloatKind.f32 (gF b0 (ixO 0 t18 1)) (impl_AirPower_v0 1065353216 (gF b1 (ixO 0 t18 1)))) most) (kn_ t18 (fop BinOp.mul FloatKind.f32 (gF b0 (ixO 0 t18 1)) (impl_AirPower_v0 1065353216 (gF b1 (ixO 0 t18 1)))) (addI IntKind.i64 t18 1)) (kn_ best most (addI IntKind.i64 t18 1)))))))))) (k1_ best most t18 (ltI t18 t17)))
theorem T_impl_StrongestSector_l5_nat {R R' : Type} (o : Option R → Option R') (h0 : o none = none) (t16n : Nat) (t17 : Int) (b0 : List Nat) (b1 : List Nat) (b2_1n : Nat) (best : Int) (most : Nat) (t18 : Int) (kn_ : Int → Nat → Int → Option R) (k0_ : Unit → Option R) (k1_ : Int → Nat → Int → Bool → Option R) : T_impl_StrongestSector_l5 t16n t17 b0 b1 b2_1n best most t18 (fun best' most' t18' => o (kn_ best' most' t18')) (fun _ => o (k0_ ())) (fun c0_ c1_ c2_ c3_ => o (k1_ c0_ c1_ c2_ c3_)) = o (T_impl_StrongestSector_l5 t16n t17 b0 b1 b2_1n best most t18 kn_ k0_ k1_) := by
  unfold T_impl_StrongestSector_l5
  repeat (first | refine grd_out h0 ?_ | refine br_out ?_ ?_ | rfl | exact h0.symm)
noncomputable def L_impl_StrongestSector_l5 (t16n : Nat) (t17 : Int) (b0 : List Nat) (b1 : List Nat) (b2_1n : Nat) : Nat → Int → Nat → Int → Option ((Unit) ⊕ (Int × Nat × Int × Bool))
  | 0, _, _, _ => none
  | n + 1, best, most, t18 => T_impl_StrongestSector_l5 t16n t17 b0 b1 b2_1n  best most t18  (fun best' most' t18' => L_impl_StrongestSector_l5 t16n t17 b0 b1 b2_1n n best' most' t18') (fun _ => some (Sum.inl ())) (fun c0_ c1_ c2_ c3_ => some (Sum.inr (c0_, c1_, c2_, c3_)))
theorem L_impl_StrongestSector_l5_succ (t16n : Nat) (t17 : Int) (b0 : List Nat) (b1 : List Nat) (b2_1n : Nat) (n : Nat) (best : Int) (most : Nat) (t18 : Int) : L_impl_StrongestSector_l5 t16n t17 b0 b1 b2_1n (n + 1) best most t18 = T_impl_StrongestSector_l5 t16n t17 b0 b1 b2_1n  best most t18  (fun best' most' t18' => L_impl_StrongestSector_l5 t16n t17 b0 b1 b2_1n n best' most' t18') (fun _ => some (Sum.inl ())) (fun c0_ c1_ c2_ c3_ => some (Sum.inr (c0_, c1_, c2_, c3_))) := rfl
noncomputable def impl_StrongestSector_l5_p (t16n : Nat) (t17 : Int) (b0 : List Nat) (b1 : List Nat) (b2_1n : Nat) (best : Int) (most : Nat) (t18 : Int) : Bool := (L_impl_StrongestSector_l5 t16n t17 b0 b1 b2_1n big best most t18).isSome
noncomputable def impl_StrongestSector_l5_w0 (t16n : Nat) (t17 : Int) (b0 : List Nat) (b1 : List Nat) (b2_1n : Nat) (best : Int) (most : Nat) (t18 : Int) : Bool := oL (L_impl_StrongestSector_l5 t16n t17 b0 b1 b2_1n big best most t18)
noncomputable def impl_StrongestSector_l5_a1_0 (t16n : Nat) (t17 : Int) (b0 : List Nat) (b1 : List Nat) (b2_1n : Nat) (best : Int) (most : Nat) (t18 : Int) : Int := ((tR (L_impl_StrongestSector_l5 t16n t17 b0 b1 b2_1n big best most t18)).getD default).1
noncomputable def impl_StrongestSector_l5_a1_1 (t16n : Nat) (t17 : Int) (b0 : List Nat) (b1 : List Nat) (b2_1n : Nat) (best : Int) (most : Nat) (t18 : Int) : Nat := ((tR (L_impl_StrongestSector_l5 t16n t17 b0 b1 b2_1n big best most t18)).getD default).2.1
noncomputable def impl_StrongestSector_l5_a1_2 (t16n : Nat) (t17 : Int) (b0 : List Nat) (b1 : List Nat) (b2_1n : Nat) (best : Int) (most : Nat) (t18 : Int) : Int := ((tR (L_impl_StrongestSector_l5 t16n t17 b0 b1 b2_1n big best most t18)).getD default).2.2.1
noncomputable def impl_StrongestSector_l5_a1_3 (t16n : Nat) (t17 : Int) (b0 : List Nat) (b1 : List Nat) (b2_1n : Nat) (best : Int) (most : Nat) (t18 : Int) : Bool := ((tR (L_impl_StrongestSector_l5 t16n t17 b0 b1 b2_1n big best most t18)).getD default).2.2.2
theorem impl_StrongestSector_l5_of0 {t16n : Nat} {t17 : Int} {b0 : List Nat} {b1 : List Nat} {b2_1n : Nat} {best : Int} {most : Nat} {t18 : Int} {m : Nat} {r : Unit} (hm : m = big) (h : L_impl_StrongestSector_l5 t16n t17 b0 b1 b2_1n m best most t18 = some (Sum.inl r)) : impl_StrongestSector_l5_p t16n t17 b0 b1 b2_1n best most t18 = true ∧ impl_StrongestSector_l5_w0 t16n t17 b0 b1 b2_1n best most t18 = true := by
  subst hm
  unfold impl_StrongestSector_l5_p impl_StrongestSector_l5_w0
  rw [h]
  exact ⟨rfl, rfl⟩
theorem impl_StrongestSector_l5_of1 {t16n : Nat} {t17 : Int} {b0 : List Nat} {b1 : List Nat} {b2_1n : Nat} {best : Int} {most : Nat} {t18 : Int} {m : Nat} {r : Int × Nat × Int × Bool} (hm : m = big) (h : L_impl_StrongestSector_l5 t16n t17 b0 b1 b2_1n m best most t18 = some (Sum.inr r)) : impl_StrongestSector_l5_p t16n t17 b0 b1 b2_1n best most t18 = true ∧ impl_StrongestSector_l5_w0 t16n t17 b0 b1 b2_1n best most t18 = false ∧ impl_StrongestSector_l5_a1_0 t16n t17 b0 b1 b2_1n best most t18 = r.1 ∧ impl_StrongestSector_l5_a1_1 t16n t17 b0 b1 b2_1n best most t18 = r.2.1 ∧ impl_StrongestSector_l5_a1_2 t16n t17 b0 b1 b2_1n best most t18 = r.2.2.1 ∧ impl_StrongestSector_l5_a1_3 t16n t17 b0 b1 b2_1n best most t18 = r.2.2.2 := by
  subst hm
  unfold impl_StrongestSector_l5_p impl_StrongestSector_l5_w0 impl_StrongestSector_l5_a1_0 impl_StrongestSector_l5_a1_1 impl_StrongestSector_l5_a1_2 impl_StrongestSector_l5_a1_3
  rw [h]
  exact ⟨rfl, rfl, rfl, rfl, rfl, rfl⟩
noncomputable def T_impl_StrongestSector {R : Type} (r_Shares_n : Nat) (r_Shares : List Nat) (r_Speeds_n : Nat) (r_Speeds : List Nat) (k_ : Int → Nat → Bool → Option R) : Option R := (grd (impl_ValidRose_p r_Shares_n (pF r_Shares 0 (muN r_Shares_n 1)) r_Speeds_n (pF r_Speeds 0 (muN r_Speeds_n 1))) (br (bnot (impl_ValidRose_v0 r_Shares_n (pF r_Shares 0 (muN r_Shares_n 1)) r_Speeds_n (pF r_Speeds 0 (muN r_Speeds_n 1)))) (k_ 0 0 Bool.false) (grd (impl_StrongestSector_l5_p r_Shares_n (Int.ofNat r_Shares_n) r_Shares r_Speeds r_Speeds_n 0 0 0) (br (impl_StrongestSector_l5_w0 r_Shares_n (Int.ofNat r_Shares_n) r_Shares r_Speeds r_Speeds_n 0 0 0) (k_ 0 0 Bool.false) (k_ (impl_StrongestSector_l5_a1_0 r_Shares_n (Int.ofNat r_Shares_n) r_Shares r_Speeds r_Speeds_n 0 0 0) (impl_StrongestSector_l5_a1_1 r_Shares_n (Int.ofNat r_Shares_n) r_Shares r_Speeds r_Speeds_n 0 0 0) Bool.true)))))
noncomputable def F_impl_StrongestSector (r_Shares_n : Nat) (r_Shares : List Nat) (r_Speeds_n : Nat) (r_Speeds : List Nat) : Option (Int × Nat × Bool) := T_impl_StrongestSector r_Shares_n r_Shares r_Speeds_n r_Speeds (fun c0_ c1_ c2_ => some (c0_, c1_, c2_))
theorem T_impl_StrongestSector_nat {R R' : Type} (o : Option R → Option R') (h0 : o none = none) (r_Shares_n : Nat) (r_Shares : List Nat) (r_Speeds_n : Nat) (r_Speeds : List Nat) (k_ : Int → Nat → Bool → Option R) : T_impl_StrongestSector r_Shares_n r_Shares r_Speeds_n r_Speeds (fun c0_ c1_ c2_ => o (k_ c0_ c1_ c2_)) = o (T_impl_StrongestSector r_Shares_n r_Shares r_Speeds_n r_Speeds k_) := by
  unfold T_impl_StrongestSector
  repeat (first | refine grd_out h0 ?_ | refine br_out ?_ ?_ | rfl | exact h0.symm)
noncomputable def impl_StrongestSector_p (r_Shares_n : Nat) (r_Shares : List Nat) (r_Speeds_n : Nat) (r_Speeds : List Nat) : Bool := (F_impl_StrongestSector r_Shares_n r_Shares r_Speeds_n r_Speeds).isSome
noncomputable def impl_StrongestSector_v0 (r_Shares_n : Nat) (r_Shares : List Nat) (r_Speeds_n : Nat) (r_Speeds : List Nat) : Int := ((F_impl_StrongestSector r_Shares_n r_Shares r_Speeds_n r_Speeds).getD default).1
noncomputable def impl_StrongestSector_v1 (r_Shares_n : Nat) (r_Shares : List Nat) (r_Speeds_n : Nat) (r_Speeds : List Nat) : Nat := ((F_impl_StrongestSector r_Shares_n r_Shares r_Speeds_n r_Speeds).getD default).2.1
noncomputable def impl_StrongestSector_v2 (r_Shares_n : Nat) (r_Shares : List Nat) (r_Speeds_n : Nat) (r_Speeds : List Nat) : Bool := ((F_impl_StrongestSector r_Shares_n r_Shares r_Speeds_n r_Speeds).getD default).2.2
theorem impl_StrongestSector_of {r_Shares_n : Nat} {r_Shares : List Nat} {r_Speeds_n : Nat} {r_Speeds : List Nat} {r : Int × Nat × Bool} (h : F_impl_StrongestSector r_Shares_n r_Shares r_Speeds_n r_Speeds = some r) : impl_StrongestSector_p r_Shares_n r_Shares r_Speeds_n r_Speeds = true ∧ impl_StrongestSector_v0 r_Shares_n r_Shares r_Speeds_n r_Speeds = r.1 ∧ impl_StrongestSector_v1 r_Shares_n r_Shares r_Speeds_n r_Speeds = r.2.1 ∧ impl_StrongestSector_v2 r_Shares_n r_Shares r_Speeds_n r_Speeds = r.2.2 := by
  unfold impl_StrongestSector_p impl_StrongestSector_v0 impl_StrongestSector_v1 impl_StrongestSector_v2
  rw [h]
  exact ⟨rfl, rfl, rfl, rfl⟩
noncomputable def T_laws_FnExactStrongestSector {R : Type} (aR_Shares_n : Nat) (aR_Shares : List Nat) (aR_Speeds_n : Nat) (aR_Speeds : List Nat) (k_ : Bool → Option R) : Option R := (grd (laws_szRose_p aR_Shares_n (pF aR_Shares 0 (muN aR_Shares_n 1)) aR_Speeds_n (pF aR_Speeds 0 (muN aR_Speeds_n 1)) 1048576) (br (ltI (laws_szRose_v0 aR_Shares_n (pF aR_Shares 0 (muN aR_Shares_n 1)) aR_Speeds_n (pF aR_Speeds 0 (muN aR_Speeds_n 1)) 1048576) 0) (k_ Bool.true) (grd (laws_toRose_p aR_Shares_n (pF aR_Shares 0 (muN aR_Shares_n 1)) aR_Speeds_n (pF aR_Speeds 0 (muN aR_Speeds_n 1))) (grd (spec_StrongestSector_p (laws_toRose_v0 aR_Shares_n (pF aR_Shares 0 (muN aR_Shares_n 1)) aR_Speeds_n (pF aR_Speeds 0 (muN aR_Speeds_n 1))) (pF (laws_toRose_v2 aR_Shares_n (pF aR_Shares 0 (muN aR_Shares_n 1)) aR_Speeds_n (pF aR_Speeds 0 (muN aR_Speeds_n 1))) 0 (muN (laws_toRose_v0 aR_Shares_n (pF aR_Shares 0 (muN aR_Shares_n 1)) aR_Speeds_n (pF aR_Speeds 0 (muN aR_Speeds_n 1))) 1)) (laws_toRose_v1 aR_Shares_n (pF aR_Shares 0 (muN aR_Shares_n 1)) aR_Speeds_n (pF aR_Speeds 0 (muN aR_Speeds_n 1))) (pF (laws_toRose_v3 aR_Shares_n (pF aR_Shares 0 (muN aR_Shares_n 1)) aR_Speeds_n (pF aR_Speeds 0 (muN aR_Speeds_n 1))) 0 (muN (laws_toRose_v1 aR_Shares_n (pF aR_Shares 0 (muN aR_Shares_n 1)) aR_Speeds_n (pF aR_Speeds 0 (muN aR_Speeds_n 1))) 1))) (grd (laws_toRose_p aR_Shares_n (pF aR_Shares 0 (muN aR_Shares_n 1)) aR_Speeds_n (pF aR_Speeds 0 (muN aR_Speeds_n 1))) (grd (impl_StrongestSector_p (laws_toRose_v0 aR_Shares_n (pF aR_Shares 0 (muN aR_Shares_n 1)) aR_Speeds_n (pF aR_Speeds 0 (muN aR_Speeds_n 1))) (pF (laws_toRose_v2 aR_Shares_n (pF aR_Shares 0 (muN aR_Shares_n 1)) aR_Speeds_n (pF aR_Speeds 0 (muN aR_Speeds_n 1))) 0 (muN (laws_toRose_v0 aR_Shares_n (pF aR_Shares 0 (muN aR_Shares_n 1)) aR_Speeds_n (pF aR_Speeds 0 (muN aR_Speeds_n 1))) 1)) (laws_toRose_v1 aR_Shares_n (pF aR_Shares 0 (muN aR_Shares_n 1)) aR_Speeds_n (pF aR_Speeds 0 (muN aR_Speeds_n 1))) (pF (laws_toRose_v3 aR_Shares_n (pF aR_Shares 0 (muN aR_Shares_n 1)) aR_Speeds_n (pF aR_Speeds 0 (muN aR_Speeds_n 1))) 0 (muN (laws_toRose_v1 aR_Shares_n (pF aR_Shares 0 (muN aR_Shares_n 1)) aR_Speeds_n (pF aR_Speeds 0 (muN aR_Speeds_n 1))) 1))) (br (neI (impl_StrongestSector_v0 (laws_toRose_v0 aR_Shares_n (pF aR_Shares 0 (muN aR_Shares_n 1)) aR_Speeds_n (pF aR_Speeds 0 (muN aR_Speeds_n 1))) (pF (laws_toRose_v2 aR_Shares_n (pF aR_Shares 0 (muN aR_Shares_n 1)) aR_Speeds_n (pF aR_Speeds 0 (muN aR_Speeds_n 1))) 0 (muN (laws_toRose_v0 aR_Shares_n (pF aR_Shares 0 (muN aR_Shares_n 1)) aR_Speeds_n (pF aR_Speeds 0 (muN aR_Speeds_n 1))) 1)) (laws_toRose_v1 aR_Shares_n (pF aR_Shares 0 (muN aR_Shares_n 1)) aR_Speeds_n (pF aR_Speeds 0 (muN aR_Speeds_n 1))) (pF (laws_toRose_v3 aR_Shares_n (pF aR_Shares 0 (muN aR_Shares_n 1)) aR_Speeds_n (pF aR_Speeds 0 (muN aR_Speeds_n 1))) 0 (muN (laws_toRose_v1 aR_Shares_n (pF aR_Shares 0 (muN aR_Shares_n 1)) aR_Speeds_n (pF aR_Speeds 0 (muN aR_Speeds_n 1))) 1))) (spec_StrongestSector_v0 (laws_toRose_v0 aR_Shares_n (pF aR_Shares 0 (muN aR_Shares_n 1)) aR_Speeds_n (pF aR_Speeds 0 (muN aR_Speeds_n 1))) (pF (laws_toRose_v2 aR_Shares_n (pF aR_Shares 0 (muN aR_Shares_n 1)) aR_Speeds_n (pF aR_Speeds 0 (muN aR_Speeds_n 1))) 0 (muN (laws_toRose_v0 aR_Shares_n (pF aR_Shares 0 (muN aR_Shares_n 1)) aR_Speeds_n (pF aR_Speeds 0 (muN aR_Speeds_n 1))) 1)) (laws_toRose_v1 aR_Shares_n (pF aR_Shares 0 (muN aR_Shares_n 1)) aR_Speeds_n (pF aR_Speeds 0 (muN aR_Speeds_n 1))) (pF (laws_toRose_v3 aR_Shares_n (pF aR_Shares 0 (muN aR_Shares_n 1)) aR_Speeds_n (pF aR_Speeds 0 (muN aR_Speeds_n 1))) 0 (muN (laws_toRose_v1 aR_Shares_n (pF aR_Shares 0 (muN aR_Shares_n 1)) aR_Speeds_n (pF aR_Speeds 0 (muN aR_Speeds_n 1))) 1)))) (k_ Bool.false) (grd (laws_sameFloat_p (fcvV FloatKind.f32 FloatKind.f64 (impl_StrongestSector_v1 (laws_toRose_v0 aR_Shares_n (pF aR_Shares 0 (muN aR_Shares_n 1)) aR_Speeds_n (pF aR_Speeds 0 (muN aR_Speeds_n 1))) (pF (laws_toRose_v2 aR_Shares_n (pF aR_Shares 0 (muN aR_Shares_n 1)) aR_Speeds_n (pF aR_Speeds 0 (muN aR_Speeds_n 1))) 0 (muN (laws_toRose_v0 aR_Shares_n (pF aR_Shares 0 (muN aR_Shares_n 1)) aR_Speeds_n (pF aR_Speeds 0 (muN aR_Speeds_n 1))) 1)) (laws_toRose_v1 aR_Shares_n (pF aR_Shares 0 (muN aR_Shares_n 1)) aR_Speeds_n (pF aR_Speeds 0 (muN aR_Speeds_n 1))) (pF (laws_toRose_v3 aR_Shares_n (pF aR_Shares 0 (muN aR_Shares_n 1)) aR_Speeds_n (pF aR_Speeds 0 (muN aR_Speeds_n 1))) 0 (muN (laws_toRose_v1 aR_Shares_n (pF aR_Shares 0 (muN aR_Shares_n 1)) aR_Speeds_n (pF aR_Speeds 0 (muN aR_Speeds_n 1))) 1)))) (fcvV FloatKind.f32 FloatKind.f64 (spec_StrongestSector_v1 (laws_toRose_v0 aR_Shares_n (pF aR_Shares 0 (muN aR_Shares_n 1)) aR_Speeds_n (pF aR_Speeds 0 (muN aR_Speeds_n 1))) (pF (laws_toRose_v2 aR_Shares_n (pF aR_Shares 0 (muN aR_Shares_n 1)) aR_Speeds_n (pF aR_Speeds 0 (muN aR_Speeds_n 1))) 0 (muN (laws_toRose_v0 aR_Shares_n (pF aR_Shares 0 (muN aR_Shares_n 1)) aR_Speeds_n (pF aR_Speeds 0 (muN aR_Speeds_n 1))) 1)) (laws_toRose_v1 aR_Shares_n (pF aR_Shares 0 (muN aR_Shares_n 1)) aR_Speeds_n (pF aR_Speeds 0 (muN aR_Speeds_n 1))) (pF (laws_toRose_v3 aR_Shares_n (pF aR_Shares 0 (muN aR_Shares_n 1)) aR_Speeds_n (pF aR_Speeds 0 (muN aR_Speeds_n 1))) 0 (muN (laws_toRose_v1 aR_Shares_n (pF aR_Shares 0 (muN aR_Shares_n 1)) aR_Speeds_n (pF aR_Speeds 0 (muN aR_Speeds_n 1))) 1))))) (br (bnot (laws_sameFloat_v0 (fcvV FloatKind.f32 FloatKind.f64 (impl_StrongestSector_v1 (laws_toRose_v0 aR_Shares_n (pF aR_Shares 0 (muN aR_Shares_n 1)) aR_Speeds_n (pF aR_Speeds 0 (muN aR_Speeds_n 1))) (pF (laws_toRose_v2 aR_Shares_n (pF aR_Shares 0 (muN aR_Shares_n 1)) aR_Speeds_n (pF aR_Speeds 0 (muN aR_Speeds_n 1))) 0 (muN (laws_toRose_v0 aR_Shares_n (pF aR_Shares 0 (muN aR_Shares_n 1)) aR_Speeds_n (pF aR_Speeds 0 (muN aR_Speeds_n 1))) 1)) (laws_toRose_v1 aR_Shares_n (pF aR_Shares 0 (muN aR_Shares_n 1)) aR_Speeds_n (pF aR_Speeds 0 (muN aR_Speeds_n 1))) (pF (laws_toRose_v3 aR_Shares_n (pF aR_Shares 0 (muN aR_Shares_n 1)) aR_Speeds_n (pF aR_Speeds 0 (muN aR_Speeds_n 1))) 0 (muN (laws_toRose_v1 aR_Shares_n (pF aR_Shares 0 (muN aR_Shares_n 1)) aR_Speeds_n (pF aR_Speeds 0 (muN aR_Speeds_n 1))) 1)))) (fcvV FloatKind.f32 FloatKind.f64 (spec_StrongestSector_v1 (laws_toRose_v0 aR_Shares_n (pF aR_Shares 0 (muN aR_Shares_n 1)) aR_Speeds_n (pF aR_Speeds 0 (muN aR_Speeds_n 1))) (pF (laws_toRose_v2 aR_Shares_n (pF aR_Shares 0 (muN aR_Shares_n 1)) aR_Speeds_n (pF aR_Speeds 0 (muN aR_Speeds_n 1))) 0 (muN (laws_toRose_v0 aR_Shares_n (pF aR_Shares 0 (muN aR_Shares_n 1)) aR_Speeds_n (pF aR_Speeds 0 (muN aR_Speeds_n 1))) 1)) (laws_toRose_v1 aR_Shares_n (pF aR_Shares 0 (muN aR_Shares_n 1)) aR_Speeds_n (pF aR_Speeds 0 (muN aR_Speeds_n 1))) (pF (laws_toRose_v3 aR_Shares_n (pF aR_Shares 0 (muN aR_Shares_n 1)) aR_Speeds_n (pF aR_Speeds 0 (muN aR_Speeds_n 1))) 0 (muN (laws_toRose_v1 aR_Shares_n (pF aR_Shares 0 (muN aR_Shares_n 1)) aR_Speeds_n (pF aR_Speeds 0 (muN aR_Speeds_n 1))) 1)))))) (k_ Bool.false) (br (bnot (beqB (impl_StrongestSector_v2 (laws_toRose_v0 aR_Shares_n (pF aR_Shares 0 (muN aR_Shares_n 1)) aR_Speeds_n (pF aR_Speeds 0 (muN aR_Speeds_n 1))) (pF (laws_toRose_v2 aR_Shares_n (pF aR_Shares 0 (muN aR_Shares_n 1)) aR_Speeds_n (pF aR_Speeds 0 (muN aR_Speeds_n 1))) 0 (muN (laws_toRose_v0 aR_Shares_n (pF aR_Shares 0 (muN aR_Shares_n 1)) aR_Speeds_n (pF aR_Speeds 0 (muN aR_Speeds_n 1))) 1)) (laws_toRose_v1 aR_Shares_n (pF aR_Shares 0 (muN aR_Shares_n 1)) aR_Speeds_n (pF aR_Speeds 0 (muN aR_Speeds_n 1))) (pF (laws_toRose_v3 aR_Shares_n (pF aR_Shares 0 (muN aR_Shares_n 1)) aR_Speeds_n (pF aR_Speeds 0 (muN aR_Speeds_n 1))) 0 (muN (laws_toRose_v1 aR_Shares_n (pF aR_Shares 0 (muN aR_Shares_n 1)) aR_Speeds_n (pF aR_Speeds 0 (muN aR_Speeds_n 1))) 1))) (spec_StrongestSector_v2 (laws_toRose_v0 aR_Shares_n (pF aR_Shares 0 (muN aR_Shares_n 1)) aR_Speeds_n (pF aR_Speeds 0 (muN aR_Speeds_n 1))) (pF (laws_toRose_v2 aR_Shares_n (pF aR_Shares 0 (muN aR_Shares_n 1)) aR_Speeds_n (pF aR_Speeds 0 (muN aR_Speeds_n 1))) 0 (muN (laws_toRose_v0 aR_Shares_n (pF aR_Shares 0 (muN aR_Shares_n 1)) aR_Speeds_n (pF aR_Speeds 0 (muN aR_Speeds_n 1))) 1)) (laws_toRose_v1 aR_Shares_n (pF aR_Shares 0 (muN aR_Shares_n 1)) aR_Speeds_n (pF aR_Speeds 0 (muN aR_Speeds_n 1))) (pF (laws_toRose_v3 aR_Shares_n (pF aR_Shares 0 (muN aR_Shares_n 1)) aR_Speeds_n (pF aR_Speeds 0 (muN aR_Speeds_n 1))) 0 (muN (laws_toRose_v1 aR_Shares_n (pF aR_Shares 0 (muN aR_Shares_n 1)) aR_Speeds_n (pF aR_Speeds 0 (muN aR_Speeds_n 1))) 1))))) (k_ Bool.false) (grd (laws_toRose_p aR_Shares_n (pF aR_Shares 0 (muN aR_Shares_n 1)) aR_Speeds_n (pF aR_Speeds 0 (muN aR_Speeds_n 1))) (grd (laws_eqRose_p (laws_toRose_v0 aR_Shares_n (pF aR_Shares 0 (muN aR_Shares_n 1)) aR_Speeds_n (pF aR_Speeds 0 (muN aR_Speeds_n 1))) (pF (laws_toRose_v2 aR_Shares_n (pF aR_Shares 0 (muN aR_Shares_n 1)) aR_Speeds_n (pF aR_Speeds 0 (muN aR_Speeds_n 1))) 0 (muN (laws_toRose_v0 aR_Shares_n (pF aR_Shares 0 (muN aR_Shares_n 1)) aR_Speeds_n (pF aR_Speeds 0 (muN aR_Speeds_n 1))) 1)) (laws_toRose_v1 aR_Shares_n (pF aR_Shares 0 (muN aR_Shares_n 1)) aR_Speeds_n (pF aR_Speeds 0 (muN aR_Speeds_n 1))) (pF (laws_toRose_v3 aR_Shares_n (pF aR_Shares 0 (muN aR_Shares_n 1)) aR_Speeds_n (pF aR_Speeds 0 (muN aR_Speeds_n 1))) 0 (muN (laws_toRose_v1 aR_Shares_n (pF aR_Shares 0 (muN aR_Shares_n 1)) aR_Speeds_n (pF aR_Speeds 0 (muN aR_Speeds_n 1))) 1)) (laws_toRose_v0 aR_Shares_n (pF aR_Shares 0 (muN aR_Shares_n 1)) aR_Speeds_n (pF aR_Speeds 0 (muN aR_Speeds_n 1))) (pF (laws_toRose_v2 aR_Shares_n (pF aR_Shares 0 (muN aR_Shares_n 1)) aR_Speeds_n (pF aR_Speeds 0 (muN aR_Speeds_n 1))) 0 (muN (laws_toRose_v0 aR_Shares_n (pF aR_Shares 0 (muN aR_Shares_n 1)) aR_Speeds_n (pF aR_Speeds 0 (muN aR_Speeds_n 1))) 1)) (laws_toRose_v1 aR_Shares_n (pF aR_Shares 0 (muN aR_Shares_n 1)) aR_Speeds_n (pF aR_Speeds 0 (muN aR_Speeds_n 1))) (pF (laws_toRose_v3 aR_Shares_n (pF aR_Shares 0 (muN aR_Shares_n 1)) aR_Speeds_n (pF aR_Speeds 0 (muN aR_Speeds_n 1))) 0 (muN (laws_toRose_v1 aR_Shares_n (pF aR_Shares 0 (muN aR_Shares_n 1)) aR_Speeds_n (pF aR_Speeds 0 (muN aR_Speeds_n 1))) 1))) (br (bnot (laws_eqRose_v0 (laws_toRose_v0 aR_Shares_n (pF aR_Shares 0 (muN aR_Shares_n 1)) aR_Speeds_n (pF aR_Speeds 0 (muN aR_Speeds_n 1))) (pF (laws_toRose_v2 aR_Shares_n (pF aR_Shares 0 (muN aR_Shares_n 1)) aR_Speeds_n (pF aR_Speeds 0 (muN aR_Speeds_n 1))) 0 (muN (laws_toRose_v0 aR_Shares_n (pF aR_Shares 0 (muN aR_Shares_n 1)) aR_Speeds_n (pF aR_Speeds 0 (muN aR_Speeds_n 1))) 1)) (laws_toRose_v1 aR_Shares_n (pF aR_Shares 0 (muN aR_Shares_n 1)) aR_Speeds_n (pF aR_Speeds 0 (muN aR_Speeds_n 1))) (pF (laws_toRose_v3 aR_Shares_n (pF aR_Shares 0 (muN aR_Shares_n 1)) aR_Speeds_n (pF aR_Speeds 0 (muN aR_Speeds_n 1))) 0 (muN (laws_toRose_v1 aR_Shares_n (pF aR_Shares 0 (muN aR_Shares_n 1)) aR_Speeds_n (pF aR_Speeds 0 (muN aR_Speeds_n 1))) 1)) (laws_toRose_v0 aR_Shares_n (pF aR_Shares 0 (muN aR_Shares_n 1)) aR_Speeds_n (pF aR_Speeds 0 (muN aR_Speeds_n 1))) (pF (laws_toRose_v2 aR_Shares_n (pF aR_Shares 0 (muN aR_Shares_n 1)) aR_Speeds_n (pF aR_Speeds 0 (muN aR_Speeds_n 1))) 0 (muN (laws_toRose_v0 aR_Shares_n (pF aR_Shares 0 (muN aR_Shares_n 1)) aR_Speeds_n (pF aR_Speeds 0 (muN aR_Speeds_n 1))) 1)) (laws_toRose_v1 aR_Shares_n (pF aR_Shares 0 (muN aR_Shares_n 1)) aR_Speeds_n (pF aR_Speeds 0 (muN aR_Speeds_n 1))) (pF (laws_toRose_v3 aR_Shares_n (pF aR_Shares 0 (muN aR_Shares_n 1)) aR_Speeds_n (pF aR_Speeds 0 (muN aR_Speeds_n 1))) 0 (muN (laws_toRose_v1 aR_Shares_n (pF aR_Shares 0 (muN aR_Shares_n 1)) aR_Speeds_n (pF aR_Speeds 0 (muN aR_Speeds_n 1))) 1)))) (k_ Bool.false) (k_ Bool.true))))))))))))))
noncomputable def F_laws_FnExactStrongestSector (aR_Shares_n : Nat) (aR_Shares : List Nat) (aR_Speeds_n : Nat) (aR_Speeds : List Nat) : Option (Bool) := T_laws_FnExactStrongestSector aR_Shares_n aR_Shares aR_Speeds_n aR_Speeds (fun c0_ => some c0_)
theorem T_laws_FnExactStrongestSector_nat {R R' : Type} (o : Option R → Option R') (h0 : o none = none) (aR_Shares_n : Nat) (aR_Shares : List Nat) (aR_Speeds_n : Nat) (aR_Speeds : List Nat) (k_ : Bool → Option R) : T_laws_FnExactStrongestSector aR_Shares_n aR_Shares aR_Speeds_n aR_Speeds (fun c0_ => o (k_ c0_)) = o (T_laws_FnExactStrongestSector aR_Shares_n aR_Shares aR_Speeds_n aR_Speeds k_) := by
  unfold T_laws_FnExactStrongestSector
  repeat (first | refine grd_out h0 ?_ | refine br_out ?_ ?_ | rfl | exact h0.symm)
noncomputable def laws_FnExactStrongestSector_p (aR_Shares_n : Nat) (aR_Shares : List Nat) (aR_Speeds_n : Nat) (aR_Speeds : List Nat) : Bool := (F_laws_FnExactStrongestSector aR_Shares_n aR_Shares aR_Speeds_n aR_Speeds).isSome
noncomputable def laws_FnExactStrongestSector_v0 (aR_Shares_n : Nat) (aR_Shares : List Nat) (aR_Speeds_n : Nat) (aR_Speeds : List Nat) : Bool := ((F_laws_FnExactStrongestSector aR_Shares_n aR_Shares aR_Speeds_n aR_Speeds).getD default)
theorem laws_FnExactStrongestSector_of {aR_Shares_n : Nat} {aR_Shares : List Nat} {aR_Speeds_n : Nat} {aR_Speeds : List Nat} {r : Bool} (h : F_laws_FnExactStrongestSector aR_Shares_n aR_Shares aR_Speeds_n aR_Speeds = some r) : laws_FnExactStrongestSector_p aR_Shares_n aR_Shares aR_Speeds_n aR_Speeds = true ∧ laws_FnExactStrongestSector_v0 aR_Shares_n aR_Shares aR_Speeds_n aR_Speeds = r := by
  unfold laws_FnExactStrongestSector_p laws_FnExactStrongestSector_v0
  rw [h]
  exact ⟨rfl, rfl⟩
end Go.Rf
