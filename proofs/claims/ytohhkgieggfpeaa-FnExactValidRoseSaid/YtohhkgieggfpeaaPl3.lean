/-
  Plain laws: the first six.
-/
import Derived.Test.YtohhkgieggfpeaaPl2
set_option linter.unusedVariables false
set_option linter.unusedSimpArgs false
namespace Go.Rf
open Go

theorem plain_FnExactSameAir {a b c d e f g h : Nat} (ha : canW .f32 a) (hb : canW .f32 b) (hc : canW .f32 c) (hd : canW .f32 d) (he : canW .f32 e) (hf : canW .f32 f) (hg : canW .f32 g) (hh : canW .f32 h) :
    F_laws_FnExactSameAir a b c d e f g h = some true := by
  obtain ⟨p1, q1⟩ := impl_SameAir_of (impl_SameAir_eq ha hb hc hd he hf hg hh)
  obtain ⟨p0, q0⟩ := spec_l04Same_of (spec_l04Same_eq ha hb hc hd he hf hg hh)
  obtain ⟨p2, q2⟩ := spec_SameAir_of (show F_spec_SameAir a b c d e f g h = some (sameAirB a b c d e f g h) by unfold F_spec_SameAir; rw [p0, q0]; rfl)
  unfold F_laws_FnExactSameAir
  simp only [laws_toAir_p_eq, p1, p2, q1, q2, grd_true]
  cases sameAirB a b c d e f g h <;> rfl
theorem plain_FnExactValidAir {a b c d : Nat} (ha : canW .f32 a) (hb : canW .f32 b) (hc : canW .f32 c) (hd : canW .f32 d) : F_laws_FnExactValidAir a b c d = some true := by
  obtain ⟨p1, q1⟩ := impl_ValidAir_of (impl_ValidAir_eq a b c d)
  obtain ⟨p2, q2⟩ := spec_ValidAir_of (spec_ValidAir_eq a b c d)
  unfold F_laws_FnExactValidAir
  simp only [laws_toAir_p_eq, p1, p2, q1, q2, grd_true]
  cases validAirB a b c d <;> rfl
theorem same_two {x : Nat} {b : Bool} : grd (laws_sameFloat_p (fcvV .f32 .f64 x) (fcvV .f32 .f64 x)) (br (bnot (laws_sameFloat_v0 (fcvV .f32 .f64 x) (fcvV .f32 .f64 x))) (some false) (br (bnot (beqB b b)) (some false) (some true))) = some true := by
  obtain ⟨g1, g2⟩ := laws_sameFloat_of (laws_sameFloat_refl (fcvV .f32 .f64 x))
  rw [g1, g2]
  cases b <;> rfl
theorem plain_FnExactAirPower {d s : Nat} (hd : canW .f32 d) (hs : canW .f32 s) : F_laws_FnExactAirPower d s = some true := by
  obtain ⟨p1, q1, r1⟩ := impl_AirPower_of (impl_AirPower_eq d s)
  obtain ⟨p2, q2, r2⟩ := spec_AirPower_of (spec_AirPower_eq d s)
  unfold F_laws_FnExactAirPower
  rw [p1, p2, q1, q2, r1, r2]
  exact same_two
theorem plain_FnExactDensityAtHeight {d h s r z : Nat} (hd : canW .f32 d) (hh : canW .f32 h) (hs : canW .f32 s) (hr : canW .f32 r) (hz : canW .f32 z) : F_laws_FnExactDensityAtHeight d h s r z = some true := by
  obtain ⟨p1, q1, r1⟩ := impl_DensityAtHeight_of (impl_DensityAtHeight_eq d h s r z)
  obtain ⟨p2, q2, r2⟩ := spec_DensityAtHeight_of (spec_DensityAtHeight_eq d h s r z)
  unfold F_laws_FnExactDensityAtHeight
  rw [p1, p2, q1, q2, r1, r2]
  simp only [laws_toAir_p_eq, grd_true]
  exact same_two
theorem plain_FnExactSpeedAtHeight {d h s r z : Nat} (hd : canW .f32 d) (hh : canW .f32 h) (hs : canW .f32 s) (hr : canW .f32 r) (hz : canW .f32 z) : F_laws_FnExactSpeedAtHeight d h s r z = some true := by
  obtain ⟨p1, q1, r1⟩ := impl_SpeedAtHeight_of (impl_SpeedAtHeight_eq d h s r z)
  obtain ⟨p2, q2, r2⟩ := spec_SpeedAtHeight_of (spec_SpeedAtHeight_eq d h s r z)
  unfold F_laws_FnExactSpeedAtHeight
  rw [p1, p2, q1, q2, r1, r2]
  simp only [laws_toAir_p_eq, grd_true]
  exact same_two
end Go.Rf
