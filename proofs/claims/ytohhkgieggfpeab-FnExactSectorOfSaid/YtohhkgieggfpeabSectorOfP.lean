import Derived.Test.YtohhkgieggfpeabB
set_option linter.unusedVariables false
set_option linter.unusedSimpArgs false
set_option maxRecDepth 100000
set_option maxHeartbeats 4000000
namespace Go.Rf
open Go
noncomputable def T_spec_l04Turn {R : Type} (turn : Nat) (k_ : Bool → Option R) : Option R := (br (fcmp BinOp.geq FloatKind.f32 turn 3296329728) (k_ (fcmp BinOp.leq FloatKind.f32 turn 1148846080)) (k_ Bool.false))
noncomputable def F_spec_l04Turn (turn : Nat) : Option (Bool) := T_spec_l04Turn turn (fun c0_ => some c0_)
theorem T_spec_l04Turn_nat {R R' : Type} (o : Option R → Option R') (h0 : o none = none) (turn : Nat) (k_ : Bool → Option R) : T_spec_l04Turn turn (fun c0_ => o (k_ c0_)) = o (T_spec_l04Turn turn k_) := by
  unfold T_spec_l04Turn
  repeat (first | refine grd_out h0 ?_ | refine br_out ?_ ?_ | rfl | exact h0.symm)
noncomputable def spec_l04Turn_p (turn : Nat) : Bool := (F_spec_l04Turn turn).isSome
noncomputable def spec_l04Turn_v0 (turn : Nat) : Bool := ((F_spec_l04Turn turn).getD default)
theorem spec_l04Turn_of {turn : Nat} {r : Bool} (h : F_spec_l04Turn turn = some r) : spec_l04Turn_p turn = true ∧ spec_l04Turn_v0 turn = r := by
  unfold spec_l04Turn_p spec_l04Turn_v0
  rw [h]
  exact ⟨rfl, rfl⟩
noncomputable def T_spec_l00In {R : Type} (n_ : Int) (low : Int) (high : Int) (k_ : Bool → Option R) : Option R := (br (leI low n_) (k_ (leI n_ high)) (k_ Bool.false))
noncomputable def F_spec_l00In (n_ : Int) (low : Int) (high : Int) : Option (Bool) := T_spec_l00In n_ low high (fun c0_ => some c0_)
theorem T_spec_l00In_nat {R R' : Type} (o : Option R → Option R') (h0 : o none = none) (n_ : Int) (low : Int) (high : Int) (k_ : Bool → Option R) : T_spec_l00In n_ low high (fun c0_ => o (k_ c0_)) = o (T_spec_l00In n_ low high k_) := by
  unfold T_spec_l00In
  repeat (first | refine grd_out h0 ?_ | refine br_out ?_ ?_ | rfl | exact h0.symm)
noncomputable def spec_l00In_p (n_ : Int) (low : Int) (high : Int) : Bool := (F_spec_l00In n_ low high).isSome
noncomputable def spec_l00In_v0 (n_ : Int) (low : Int) (high : Int) : Bool := ((F_spec_l00In n_ low high).getD default)
theorem spec_l00In_of {n_ : Int} {low : Int} {high : Int} {r : Bool} (h : F_spec_l00In n_ low high = some r) : spec_l00In_p n_ low high = true ∧ spec_l00In_v0 n_ low high = r := by
  unfold spec_l00In_p spec_l00In_v0
  rw [h]
  exact ⟨rfl, rfl⟩
noncomputable def T_impl_within {R : Type} (n_ : Int) (low : Int) (high : Int) (k_ : Bool → Option R) : Option R := (br (leI low n_) (k_ (leI n_ high)) (k_ Bool.false))
noncomputable def F_impl_within (n_ : Int) (low : Int) (high : Int) : Option (Bool) := T_impl_within n_ low high (fun c0_ => some c0_)
theorem T_impl_within_nat {R R' : Type} (o : Option R → Option R') (h0 : o none = none) (n_ : Int) (low : Int) (high : Int) (k_ : Bool → Option R) : T_impl_within n_ low high (fun c0_ => o (k_ c0_)) = o (T_impl_within n_ low high k_) := by
  unfold T_impl_within
  repeat (first | refine grd_out h0 ?_ | refine br_out ?_ ?_ | rfl | exact h0.symm)
noncomputable def impl_within_p (n_ : Int) (low : Int) (high : Int) : Bool := (F_impl_within n_ low high).isSome
noncomputable def impl_within_v0 (n_ : Int) (low : Int) (high : Int) : Bool := ((F_impl_within n_ low high).getD default)
theorem impl_within_of {n_ : Int} {low : Int} {high : Int} {r : Bool} (h : F_impl_within n_ low high = some r) : impl_within_p n_ low high = true ∧ impl_within_v0 n_ low high = r := by
  unfold impl_within_p impl_within_v0
  rw [h]
  exact ⟨rfl, rfl⟩
noncomputable def T_impl_isFromTo {R : Type} (x : Nat) (low : Nat) (high : Nat) (k_ : Bool → Option R) : Option R := (br (fcmp BinOp.geq FloatKind.f32 x low) (k_ (fcmp BinOp.leq FloatKind.f32 x high)) (k_ Bool.false))
noncomputable def F_impl_isFromTo (x : Nat) (low : Nat) (high : Nat) : Option (Bool) := T_impl_isFromTo x low high (fun c0_ => some c0_)
theorem T_impl_isFromTo_nat {R R' : Type} (o : Option R → Option R') (h0 : o none = none) (x : Nat) (low : Nat) (high : Nat) (k_ : Bool → Option R) : T_impl_isFromTo x low high (fun c0_ => o (k_ c0_)) = o (T_impl_isFromTo x low high k_) := by
  unfold T_impl_isFromTo
  repeat (first | refine grd_out h0 ?_ | refine br_out ?_ ?_ | rfl | exact h0.symm)
noncomputable def impl_isFromTo_p (x : Nat) (low : Nat) (high : Nat) : Bool := (F_impl_isFromTo x low high).isSome
noncomputable def impl_isFromTo_v0 (x : Nat) (low : Nat) (high : Nat) : Bool := ((F_impl_isFromTo x low high).getD default)
theorem impl_isFromTo_of {x : Nat} {low : Nat} {high : Nat} {r : Bool} (h : F_impl_isFromTo x low high = some r) : impl_isFromTo_p x low high = true ∧ impl_isFromTo_v0 x low high = r := by
  unfold impl_isFromTo_p impl_isFromTo_v0
  rw [h]
  exact ⟨rfl, rfl⟩
noncomputable def T_impl_isTurn {R : Type} (turn : Nat) (k_ : Bool → Option R) : Option R := (grd (impl_isFromTo_p turn 3296329728 1148846080) (k_ (impl_isFromTo_v0 turn 3296329728 1148846080)))
noncomputable def F_impl_isTurn (turn : Nat) : Option (Bool) := T_impl_isTurn turn (fun c0_ => some c0_)
theorem T_impl_isTurn_nat {R R' : Type} (o : Option R → Option R') (h0 : o none = none) (turn : Nat) (k_ : Bool → Option R) : T_impl_isTurn turn (fun c0_ => o (k_ c0_)) = o (T_impl_isTurn turn k_) := by
  unfold T_impl_isTurn
  repeat (first | refine grd_out h0 ?_ | refine br_out ?_ ?_ | rfl | exact h0.symm)
noncomputable def impl_isTurn_p (turn : Nat) : Bool := (F_impl_isTurn turn).isSome
noncomputable def impl_isTurn_v0 (turn : Nat) : Bool := ((F_impl_isTurn turn).getD default)
theorem impl_isTurn_of {turn : Nat} {r : Bool} (h : F_impl_isTurn turn = some r) : impl_isTurn_p turn = true ∧ impl_isTurn_v0 turn = r := by
  unfold impl_isTurn_p impl_isTurn_v0
  rw [h]
  exact ⟨rfl, rfl⟩
noncomputable def T_impl_isSectors {R : Type} (n_ : Int) (k_ : Bool → Option R) : Option R := (grd (impl_within_p n_ 1 16) (k_ (impl_within_v0 n_ 1 16)))
noncomputable def F_impl_isSectors (n_ : Int) : Option (Bool) := T_impl_isSectors n_ (fun c0_ => some c0_)
theorem T_impl_isSectors_nat {R R' : Type} (o : Option R → Option R') (h0 : o none = none) (n_ : Int) (k_ : Bool → Option R) : T_impl_isSectors n_ (fun c0_ => o (k_ c0_)) = o (T_impl_isSectors n_ k_) := by
  unfold T_impl_isSectors
  repeat (first | refine grd_out h0 ?_ | refine br_out ?_ ?_ | rfl | exact h0.symm)
noncomputable def impl_isSectors_p (n_ : Int) : Bool := (F_impl_isSectors n_).isSome
noncomputable def impl_isSectors_v0 (n_ : Int) : Bool := ((F_impl_isSectors n_).getD default)
theorem impl_isSectors_of {n_ : Int} {r : Bool} (h : F_impl_isSectors n_ = some r) : impl_isSectors_p n_ = true ∧ impl_isSectors_v0 n_ = r := by
  unfold impl_isSectors_p impl_isSectors_v0
  rw [h]
  exact ⟨rfl, rfl⟩
noncomputable def T_math_Floor {R : Type} (x : Nat) (k_ : Nat → Option R) : Option R := (grd (bnot (nanQ FloatKind.f64 x)) (k_ (fint Ieee.Toward.down x)))
noncomputable def F_math_Floor (x : Nat) : Option (Nat) := T_math_Floor x (fun c0_ => some c0_)
theorem T_math_Floor_nat {R R' : Type} (o : Option R → Option R') (h0 : o none = none) (x : Nat) (k_ : Nat → Option R) : T_math_Floor x (fun c0_ => o (k_ c0_)) = o (T_math_Floor x k_) := by
  unfold T_math_Floor
  repeat (first | refine grd_out h0 ?_ | refine br_out ?_ ?_ | rfl | exact h0.symm)
noncomputable def math_Floor_p (x : Nat) : Bool := (F_math_Floor x).isSome
noncomputable def math_Floor_v0 (x : Nat) : Nat := ((F_math_Floor x).getD default)
theorem math_Floor_of {x : Nat} {r : Nat} (h : F_math_Floor x = some r) : math_Floor_p x = true ∧ math_Floor_v0 x = r := by
  unfold math_Floor_p math_Floor_v0
  rw [h]
  exact ⟨rfl, rfl⟩
noncomputable def T_spec_l04Sector {R : Type} (turn : Nat) (count : Int) (k_ : Int → Option R) : Option R := (grd (math_Floor_p (fop BinOp.add FloatKind.f64 (fop BinOp.mul FloatKind.f64 (fcvV FloatKind.f32 FloatKind.f64 turn) (fOI FloatKind.f64 count)) 4602678819172646912)) (grd (f2iB FloatKind.f64 (math_Floor_v0 (fop BinOp.add FloatKind.f64 (fop BinOp.mul FloatKind.f64 (fcvV FloatKind.f32 FloatKind.f64 turn) (fOI FloatKind.f64 count)) 4602678819172646912)) IntKind.i64) (grd (okNz count) (grd (okNz count) (k_ (remI (addI IntKind.i64 (remI (f2iV FloatKind.f64 (math_Floor_v0 (fop BinOp.add FloatKind.f64 (fop BinOp.mul FloatKind.f64 (fcvV FloatKind.f32 FloatKind.f64 turn) (fOI FloatKind.f64 count)) 4602678819172646912)) IntKind.i64) count) count) count))))))
noncomputable def F_spec_l04Sector (turn : Nat) (count : Int) : Option (Int) := T_spec_l04Sector turn count (fun c0_ => some c0_)
theorem T_spec_l04Sector_nat {R R' : Type} (o : Option R → Option R') (h0 : o none = none) (turn : Nat) (count : Int) (k_ : Int → Option R) : T_spec_l04Sector turn count (fun c0_ => o (k_ c0_)) = o (T_spec_l04Sector turn count k_) := by
  unfold T_spec_l04Sector
  repeat (first | refine grd_out h0 ?_ | refine br_out ?_ ?_ | rfl | exact h0.symm)
noncomputable def spec_l04Sector_p (turn : Nat) (count : Int) : Bool := (F_spec_l04Sector turn count).isSome
noncomputable def spec_l04Sector_v0 (turn : Nat) (count : Int) : Int := ((F_spec_l04Sector turn count).getD default)
theorem spec_l04Sector_of {turn : Nat} {count : Int} {r : Int} (h : F_spec_l04Sector turn count = some r) : spec_l04Sector_p turn count = true ∧ spec_l04Sector_v0 turn count = r := by
  unfold spec_l04Sector_p spec_l04Sector_v0
  rw [h]
  exact ⟨rfl, rfl⟩
noncomputable def T_impl_sectorOf {R : Type} (turn : Nat) (count : Int) (k_ : Int → Option R) : Option R := (grd (math_Floor_p (fop BinOp.add FloatKind.f64 (fop BinOp.mul FloatKind.f64 (fcvV FloatKind.f32 FloatKind.f64 turn) (fOI FloatKind.f64 count)) 4602678819172646912)) (grd (f2iB FloatKind.f64 (math_Floor_v0 (fop BinOp.add FloatKind.f64 (fop BinOp.mul FloatKind.f64 (fcvV FloatKind.f32 FloatKind.f64 turn) (fOI FloatKind.f64 count)) 4602678819172646912)) IntKind.i64) (grd (okNz count) (grd (okNz count) (k_ (remI (addI IntKind.i64 (remI (f2iV FloatKind.f64 (math_Floor_v0 (fop BinOp.add FloatKind.f64 (fop BinOp.mul FloatKind.f64 (fcvV FloatKind.f32 FloatKind.f64 turn) (fOI FloatKind.f64 count)) 4602678819172646912)) IntKind.i64) count) count) count))))))
noncomputable def F_impl_sectorOf (turn : Nat) (count : Int) : Option (Int) := T_impl_sectorOf turn count (fun c0_ => some c0_)
theorem T_impl_sectorOf_nat {R R' : Type} (o : Option R → Option R') (h0 : o none = none) (turn : Nat) (count : Int) (k_ : Int → Option R) : T_impl_sectorOf turn count (fun c0_ => o (k_ c0_)) = o (T_impl_sectorOf turn count k_) := by
  unfold T_impl_sectorOf
  repeat (first | refine grd_out h0 ?_ | refine br_out ?_ ?_ | rfl | exact h0.symm)
noncomputable def impl_sectorOf_p (turn : Nat) (count : Int) : Bool := (F_impl_sectorOf turn count).isSome
noncomputable def impl_sectorOf_v0 (turn : Nat) (count : Int) : Int := ((F_impl_sectorOf turn count).getD default)
theorem impl_sectorOf_of {turn : Nat} {count : Int} {r : Int} (h : F_impl_sectorOf turn count = some r) : impl_sectorOf_p turn count = true ∧ impl_sectorOf_v0 turn count = r := by
  unfold impl_sectorOf_p impl_sectorOf_v0
  rw [h]
  exact ⟨rfl, rfl⟩
noncomputable def T_spec_SectorOf {R : Type} (turn : Nat) (count : Int) (k_ : Int → Bool → Option R) : Option R := (grd (spec_l04Turn_p turn) (br (bnot (spec_l04Turn_v0 turn)) (k_ 0 Bool.false) (grd (spec_l00In_p count 1 16) (br (bnot (spec_l00In_v0 count 1 16)) (k_ 0 Bool.false) (grd (spec_l04Sector_p turn count) (k_ (spec_l04Sector_v0 turn count) Bool.true))))))
noncomputable def F_spec_SectorOf (turn : Nat) (count : Int) : Option (Int × Bool) := T_spec_SectorOf turn count (fun c0_ c1_ => some (c0_, c1_))
theorem T_spec_SectorOf_nat {R R' : Type} (o : Option R → Option R') (h0 : o none = none) (turn : Nat) (count : Int) (k_ : Int → Bool → Option R) : T_spec_SectorOf turn count (fun c0_ c1_ => o (k_ c0_ c1_)) = o (T_spec_SectorOf turn count k_) := by
  unfold T_spec_SectorOf
  repeat (first | refine grd_out h0 ?_ | refine br_out ?_ ?_ | rfl | exact h0.symm)
noncomputable def spec_SectorOf_p (turn : Nat) (count : Int) : Bool := (F_spec_SectorOf turn count).isSome
noncomputable def spec_SectorOf_v0 (turn : Nat) (count : Int) : Int := ((F_spec_SectorOf turn count).getD default).1
noncomputable def spec_SectorOf_v1 (turn : Nat) (count : Int) : Bool := ((F_spec_SectorOf turn count).getD default).2
theorem spec_SectorOf_of {turn : Nat} {count : Int} {r : Int × Bool} (h : F_spec_SectorOf turn count = some r) : spec_SectorOf_p turn count = true ∧ spec_SectorOf_v0 turn count = r.1 ∧ spec_SectorOf_v1 turn count = r.2 := by
  unfold spec_SectorOf_p spec_SectorOf_v0 spec_SectorOf_v1
  rw [h]
  exact ⟨rfl, rfl, rfl⟩
noncomputable def T_impl_SectorOf {R : Type} (turn : Nat) (count : Int) (k_ : Int → Bool → Option R) : Option R := (grd (impl_isTurn_p turn) (br (bnot (impl_isTurn_v0 turn)) (k_ 0 Bool.false) (grd (impl_isSectors_p count) (br (bnot (impl_isSectors_v0 count)) (k_ 0 Bool.false) (grd (impl_sectorOf_p turn count) (k_ (impl_sectorOf_v0 turn count) Bool.true))))))
noncomputable def F_impl_SectorOf (turn : Nat) (count : Int) : Option (Int × Bool) := T_impl_SectorOf turn count (fun c0_ c1_ => some (c0_, c1_))
theorem T_impl_SectorOf_nat {R R' : Type} (o : Option R → Option R') (h0 : o none = none) (turn : Nat) (count : Int) (k_ : Int → Bool → Option R) : T_impl_SectorOf turn count (fun c0_ c1_ => o (k_ c0_ c1_)) = o (T_impl_SectorOf turn count k_) := by
  unfold T_impl_SectorOf
  repeat (first | refine grd_out h0 ?_ | refine br_out ?_ ?_ | rfl | exact h0.symm)
noncomputable def impl_SectorOf_p (turn : Nat) (count : Int) : Bool := (F_impl_SectorOf turn count).isSome
noncomputable def impl_SectorOf_v0 (turn : Nat) (count : Int) : Int := ((F_impl_SectorOf turn count).getD default).1
noncomputable def impl_SectorOf_v1 (turn : Nat) (count : Int) : Bool := ((F_impl_SectorOf turn count).getD default).2
theorem impl_SectorOf_of {turn : Nat} {count : Int} {r : Int × Bool} (h : F_impl_SectorOf turn count = some r) : impl_SectorOf_p turn count = true ∧ impl_SectorOf_v0 turn count = r.1 ∧ impl_SectorOf_v1 turn count = r.2 := by
  unfold impl_SectorOf_p impl_SectorOf_v0 impl_SectorOf_v1
  rw [h]
  exact ⟨rfl, rfl, rfl⟩
noncomputable def T_laws_FnExactSectorOf {R : Type} (aTurn : Nat) (aCount : Int) (k_ : Bool → Option R) : Option R := (grd (spec_SectorOf_p aTurn aCount) (grd (impl_SectorOf_p aTurn aCount) (br (neI (impl_SectorOf_v0 aTurn aCount) (spec_SectorOf_v0 aTurn aCount)) (k_ Bool.false) (br (bnot (beqB (impl_SectorOf_v1 aTurn aCount) (spec_SectorOf_v1 aTurn aCount))) (k_ Bool.false) (k_ Bool.true)))))
noncomputable def F_laws_FnExactSectorOf (aTurn : Nat) (aCount : Int) : Option (Bool) := T_laws_FnExactSectorOf aTurn aCount (fun c0_ => some c0_)
theorem T_laws_FnExactSectorOf_nat {R R' : Type} (o : Option R → Option R') (h0 : o none = none) (aTurn : Nat) (aCount : Int) (k_ : Bool → Option R) : T_laws_FnExactSectorOf aTurn aCount (fun c0_ => o (k_ c0_)) = o (T_laws_FnExactSectorOf aTurn aCount k_) := by
  unfold T_laws_FnExactSectorOf
  repeat (first | refine grd_out h0 ?_ | refine br_out ?_ ?_ | rfl | exact h0.symm)
noncomputable def laws_FnExactSectorOf_p (aTurn : Nat) (aCount : Int) : Bool := (F_laws_FnExactSectorOf aTurn aCount).isSome
noncomputable def laws_FnExactSectorOf_v0 (aTurn : Nat) (aCount : Int) : Bool := ((F_laws_FnExactSectorOf aTurn aCount).getD default)
theorem laws_FnExactSectorOf_of {aTurn : Nat} {aCount : Int} {r : Bool} (h : F_laws_FnExactSectorOf aTurn aCount = some r) : laws_FnExactSectorOf_p aTurn aCount = true ∧ laws_FnExactSectorOf_v0 aTurn aCount = r := by
  unfold laws_FnExactSectorOf_p laws_FnExactSectorOf_v0
  rw [h]
  exact ⟨rfl, rfl⟩
end Go.Rf
