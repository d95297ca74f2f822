/-
  Plain laws.
-/
import Derived.Test.YtohhkgieggfpeabSectorOfP
set_option linter.unusedVariables false
set_option linter.unusedSimpArgs false
set_option maxRecDepth 100000
set_option maxHeartbeats 4000000
namespace Go.Rf
open Go
def fromToB (x low high : Nat) : Bool := fcmp .geq .f32 x low && fcmp .leq .f32 x high
theorem impl_isFromTo_eq (x low high : Nat) : F_impl_isFromTo x low high = some (fromToB x low high) := by
  unfold F_impl_isFromTo T_impl_isFromTo fromToB
  rcases Bool.eq_false_or_eq_true (fcmp .geq .f32 x low) with h | h <;> simp [h, br_if]
theorem beqB_self (b : Bool) : beqB b b = true := by cases b <;> rfl
theorem neI_self (i : Int) : neI i i = false := by simp [neI]
theorem bnot_true : bnot true = false := rfl
noncomputable def sectorF (turn : Nat) (count : Int) : Nat := fint .down (fop .add .f64 (fop .mul .f64 (fcvV .f32 .f64 turn) (fOI .f64 count)) 4602678819172646912)
noncomputable def sectorV (turn : Nat) (count : Int) : Int := remI (addI .i64 (remI (f2iV .f64 (sectorF turn count) .i64) count) count) count
def turnB (x : Nat) : Bool := fromToB x 3296329728 1148846080
theorem sector_rg {turn : Nat} {count : Int} (ht : turnB turn = true) (h1 : 1 ≤ count) (h2 : count ≤ 16) :
    nanB .f64 (fop .add .f64 (fop .mul .f64 (fcvV .f32 .f64 turn) (fOI .f64 count)) 4602678819172646912) = false ∧ f2iB .f64 (sectorF turn count) .i64 = true ∧ (f2iV .f64 (sectorF turn count) .i64).natAbs ≤ 32768 := by
  unfold turnB fromToB at ht
  rw [Bool.and_eq_true] at ht
  have g0 : rg FloatKind.f32.format turn ≤ 1148846080 := between_rg (k := .f32) (by decide +kernel) (by decide +kernel) (by decide +kernel) (by decide +kernel) ht.1 ht.2
  have g1 : rg FloatKind.f64.format (fcvV .f32 .f64 turn) ≤ 4652007308841189376 := up_rg (N := 925) g0 (by decide +kernel) (by decide +kernel) (by decide +kernel)
  have g2 : rg FloatKind.f64.format (fOI .f64 count) ≤ 4625196817309499392 := fOI_rg (B := 16) (N := 1074) (by omega) (by decide +kernel) (by decide +kernel)
  have g3 : rg FloatKind.f64.format (fop .mul .f64 (fcvV .f32 .f64 turn) (fOI .f64 count)) ≤ 4670232813583204352 := mul_rg (N := 1074) g1 g2 (by decide +kernel) (by decide +kernel) (by decide +kernel) (by decide +kernel)
  have g4 : rg FloatKind.f64.format (fop .add .f64 (fop .mul .f64 (fcvV .f32 .f64 turn) (fOI .f64 count)) 4602678819172646912) ≤ 4674736413210574848 := add_rg g3 (show rg FloatKind.f64.format 4602678819172646912 ≤ 4602678819172646912 by decide +kernel) (by decide +kernel) (by decide +kernel) (by decide +kernel)
  have g5 : rg FloatKind.f64.format (sectorF turn count) ≤ 4674736413210574848 := fint_rg (B := 32768) (N := 1074) .down g4 (by decide +kernel) (by decide +kernel) (by decide +kernel) (by decide +kernel)
  exact ⟨finW_nan (finW_of g4 (by decide +kernel)), f2i_t (B := 32768) (N := 1074) g5 (by decide +kernel) (by decide +kernel) (by decide +kernel) (by decide +kernel)⟩
theorem math_Floor_eq {x : Nat} (h : nanB .f64 x = false) : F_math_Floor x = some (fint .down x) := by
  unfold F_math_Floor T_math_Floor
  simp only [nanQ, h, bnot, Bool.not_false, grd_true]
theorem okNz_t {n : Int} (h : n ≠ 0) : okNz n = true := decide_eq_true h
theorem impl_sectorOf_eq {turn : Nat} {count : Int} (ht : turnB turn = true) (h1 : 1 ≤ count) (h2 : count ≤ 16) : F_impl_sectorOf turn count = some (sectorV turn count) := by
  obtain ⟨n1, n2, _⟩ := sector_rg ht h1 h2
  obtain ⟨p, q⟩ := math_Floor_of (math_Floor_eq n1)
  unfold F_impl_sectorOf T_impl_sectorOf sectorV
  unfold sectorF at n2 ⊢
  rw [p, q, n2, okNz_t (by omega)]; rfl
theorem spec_l04Sector_eq {turn : Nat} {count : Int} (ht : turnB turn = true) (h1 : 1 ≤ count) (h2 : count ≤ 16) : F_spec_l04Sector turn count = some (sectorV turn count) := by
  obtain ⟨n1, n2, _⟩ := sector_rg ht h1 h2
  obtain ⟨p, q⟩ := math_Floor_of (math_Floor_eq n1)
  unfold F_spec_l04Sector T_spec_l04Sector sectorV
  unfold sectorF at n2 ⊢
  rw [p, q, n2, okNz_t (by omega)]; rfl
def inB (n low high : Int) : Bool := decide (low ≤ n) && decide (n ≤ high)
theorem spec_l00In_eq (n low high : Int) : F_spec_l00In n low high = some (inB n low high) := by
  unfold F_spec_l00In T_spec_l00In inB leI
  cases decide (low ≤ n) <;> rfl
theorem impl_within_eq (n low high : Int) : F_impl_within n low high = some (inB n low high) := by
  unfold F_impl_within T_impl_within inB leI
  cases decide (low ≤ n) <;> rfl
theorem impl_isSectors_eq (n : Int) : F_impl_isSectors n = some (inB n 1 16) := by
  obtain ⟨p, q⟩ := impl_within_of (impl_within_eq n 1 16)
  unfold F_impl_isSectors T_impl_isSectors
  rw [p, q]; rfl
theorem impl_isTurn_eq (x : Nat) : F_impl_isTurn x = some (turnB x) := by
  obtain ⟨p, q⟩ := impl_isFromTo_of (impl_isFromTo_eq x 3296329728 1148846080)
  unfold F_impl_isTurn T_impl_isTurn
  rw [p, q]; rfl
theorem spec_l04Turn_eq (x : Nat) : F_spec_l04Turn x = some (turnB x) := by
  unfold F_spec_l04Turn T_spec_l04Turn turnB fromToB
  rcases Bool.eq_false_or_eq_true (fcmp .geq .f32 x 3296329728) with h | h <;> simp [h, br_if]
noncomputable def sectorR (turn : Nat) (count : Int) : Int × Bool := if turnB turn = true then (if inB count 1 16 = true then (sectorV turn count, true) else (0, false)) else (0, false)
theorem inB_le {n l h : Int} (e : inB n l h = true) : l ≤ n ∧ n ≤ h := by
  unfold inB at e
  rw [Bool.and_eq_true] at e
  exact ⟨of_decide_eq_true e.1, of_decide_eq_true e.2⟩
theorem impl_SectorOf_eq (turn : Nat) (count : Int) : F_impl_SectorOf turn count = some (sectorR turn count) := by
  obtain ⟨p1, q1⟩ := impl_isTurn_of (impl_isTurn_eq turn)
  obtain ⟨p2, q2⟩ := impl_isSectors_of (impl_isSectors_eq count)
  unfold F_impl_SectorOf T_impl_SectorOf sectorR
  rw [p1, q1, p2, q2]
  cases h1 : turnB turn
  · rfl
  · cases h2 : inB count 1 16
    · rfl
    · obtain ⟨p3, q3⟩ := impl_sectorOf_of (impl_sectorOf_eq h1 (inB_le h2).1 (inB_le h2).2)
      rw [p3, q3]; rfl
theorem spec_SectorOf_eq (turn : Nat) (count : Int) : F_spec_SectorOf turn count = some (sectorR turn count) := by
  obtain ⟨p1, q1⟩ := spec_l04Turn_of (spec_l04Turn_eq turn)
  obtain ⟨p2, q2⟩ := spec_l00In_of (spec_l00In_eq count 1 16)
  unfold F_spec_SectorOf T_spec_SectorOf sectorR
  rw [p1, q1, p2, q2]
  cases h1 : turnB turn
  · rfl
  · cases h2 : inB count 1 16
    · rfl
    · obtain ⟨p3, q3⟩ := spec_l04Sector_of (spec_l04Sector_eq h1 (inB_le h2).1 (inB_le h2).2)
      rw [p3, q3]; rfl
theorem plain_FnExactSectorOf {turn : Nat} {count : Int} (hx : canW .f32 turn) (hc : bdI .i64 count) : F_laws_FnExactSectorOf turn count = some true := by
  obtain ⟨p1, q1, r1⟩ := impl_SectorOf_of (impl_SectorOf_eq turn count)
  obtain ⟨p2, q2, r2⟩ := spec_SectorOf_of (spec_SectorOf_eq turn count)
  unfold F_laws_FnExactSectorOf T_laws_FnExactSectorOf
  simp only [p1, q1, r1, p2, q2, r2, grd_true, neI_self, beqB_self, bnot_true, br_false]
end Go.Rf
