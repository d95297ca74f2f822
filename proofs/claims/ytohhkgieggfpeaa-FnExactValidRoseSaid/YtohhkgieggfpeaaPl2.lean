/-
  Plain laws of air: the program's answers are the reference's.
-/
import Derived.Test.YtohhkgieggfpeaaPl1
import Derived.Test.YtohhkgieggfpeaaFl
set_option linter.unusedVariables false
set_option linter.unusedSimpArgs false
namespace Go.Rf
open Go

/-! ### The same number -/
theorem spec_l01Bits_eq {x : Nat} (h : canW .f32 x) : F_spec_l01Bits x = some (x : Int) := by
  obtain ⟨h1, h2⟩ := h
  unfold F_spec_l01Bits
  rw [neq_self]
  cases hn : nanB .f32 x with
  | true =>
    rw [cn_of_nan hn] at h2
    subst h2
    rfl
  | false =>
    have h32 : (2 : Nat) ^ FloatKind.f32.format.width = 4294967296 := by decide
    rw [h32] at h1
    have e : cvI .i64 (Int.ofNat x) = (x : Int) := wrap64 (by simp) (by simp; omega)
    simp only [br_if, nanQ, hn, bnot, grd_true, e]
    rfl
theorem spec_l01Same_eq {x y : Nat} (hx : canW .f32 x) (hy : canW .f32 y) : F_spec_l01Same x y = some (decide (x = y)) := by
  obtain ⟨h1, h2⟩ := spec_l01Bits_of (spec_l01Bits_eq hx)
  obtain ⟨h3, h4⟩ := spec_l01Bits_of (spec_l01Bits_eq hy)
  unfold F_spec_l01Same
  rw [h1, h2, h3, h4]
  simp only [grd_true, eqI]
  by_cases h : x = y
  · subst h; simp
  · rw [decide_eq_false h, decide_eq_false (by omega)]
theorem math_Signbit_eq {x : Nat} (h : nanB .f32 x = false) : F_math_Signbit (fcvV .f32 .f64 x) = some (ngB Ieee.single x) := by
  have e : ltI (cvI IntKind.i64 (Int.ofNat (fcvV .f32 .f64 x))) 0 = ngB Ieee.single x := up_sign h
  unfold F_math_Signbit
  rw [e]
  simp only [nanQ, bnot, up_nan h, Bool.not_false, grd_true]
theorem impl_SameNumber_eq {x y : Nat} (hx : canW .f32 x) (hy : canW .f32 y) : F_impl_SameNumber x y = some (decide (x = y)) := by
  unfold F_impl_SameNumber
  rw [neq_self, neq_self]
  cases nx : nanB .f32 x
  · cases ny : nanB .f32 y
    · obtain ⟨g1, g2⟩ := math_Signbit_of (math_Signbit_eq nx)
      obtain ⟨g3, g4⟩ := math_Signbit_of (math_Signbit_eq ny)
      rw [g1, g2, g3, g4, (fcmp_num .f32 nx ny).1]
      have h32 : (2 : Nat) ^ FloatKind.f32.format.width = 2 ^ 32 := by decide
      have key := same_word (x := x) (y := y) (by rw [← h32]; exact hx.1) (by rw [← h32]; exact hy.1)
      show (br (decide (srung Ieee.single x = srung Ieee.single y)) (some (ngB Ieee.single x == ngB Ieee.single y)) (some false)) = _
      by_cases h : srung Ieee.single x = srung Ieee.single y
      · rw [decide_eq_true h]
        show some (ngB Ieee.single x == ngB Ieee.single y) = _
        by_cases h' : ngB Ieee.single x = ngB Ieee.single y
        · rw [decide_eq_true (key.1 ⟨h, h'⟩), h']; simp
        · rw [decide_eq_false (fun e => h' (key.2 e).2)]
          simpa using h'
      · rw [decide_eq_false h, decide_eq_false (fun e => h (key.2 e).1)]
        rfl
    · rw [decide_eq_false (fun e => by subst e; rw [nx] at ny; cases ny)]
      rfl
  · cases ny : nanB .f32 y
    · rw [decide_eq_false (fun e => by subst e; rw [nx] at ny; cases ny)]
      rfl
    · have e1 : x = qn .f32 := by rw [← cn_of_nan nx]; exact hx.2.symm
      have e2 : y = qn .f32 := by rw [← cn_of_nan ny]; exact hy.2.symm
      rw [e1, e2]; simp [br]

/-! ### Air -/
def sameAirB (a b c d e f g h : Nat) : Bool := decide (a = e) && (decide (b = f) && (decide (c = g) && decide (d = h)))
theorem same4 (p q r s : Bool) : br p (br q (br r (some s) (some false)) (some false)) (some false) = some (p && (q && (r && s))) := by cases p <;> cases q <;> cases r <;> rfl
theorem impl_SameAir_eq {a b c d e f g h : Nat} (ha : canW .f32 a) (hb : canW .f32 b) (hc : canW .f32 c) (hd : canW .f32 d) (he : canW .f32 e) (hf : canW .f32 f) (hg : canW .f32 g) (hh : canW .f32 h) :
    F_impl_SameAir a b c d e f g h = some (sameAirB a b c d e f g h) := by
  obtain ⟨p1, q1⟩ := impl_SameNumber_of (impl_SameNumber_eq ha he)
  obtain ⟨p2, q2⟩ := impl_SameNumber_of (impl_SameNumber_eq hb hf)
  obtain ⟨p3, q3⟩ := impl_SameNumber_of (impl_SameNumber_eq hc hg)
  obtain ⟨p4, q4⟩ := impl_SameNumber_of (impl_SameNumber_eq hd hh)
  unfold F_impl_SameAir
  simp only [p1, p2, p3, p4, q1, q2, q3, q4, grd_true]
  exact same4 _ _ _ _
theorem spec_l04Same_eq {a b c d e f g h : Nat} (ha : canW .f32 a) (hb : canW .f32 b) (hc : canW .f32 c) (hd : canW .f32 d) (he : canW .f32 e) (hf : canW .f32 f) (hg : canW .f32 g) (hh : canW .f32 h) :
    F_spec_l04Same a b c d e f g h = some (sameAirB a b c d e f g h) := by
  obtain ⟨p1, q1⟩ := spec_l01Same_of (spec_l01Same_eq ha he)
  obtain ⟨p2, q2⟩ := spec_l01Same_of (spec_l01Same_eq hb hf)
  obtain ⟨p3, q3⟩ := spec_l01Same_of (spec_l01Same_eq hc hg)
  obtain ⟨p4, q4⟩ := spec_l01Same_of (spec_l01Same_eq hd hh)
  unfold F_spec_l04Same
  simp only [p1, p2, p3, p4, q1, q2, q3, q4, grd_true]
  exact same4 _ _ _ _
theorem laws_toAir_p_eq (a b c d : Nat) : laws_toAir_p a b c d = true := rfl

def validAirB (d h s r : Nat) : Bool := posB d && (posB h && (leastB s && fromToB r 0 1065353216))
theorem impl_ValidAir_eq (d h s r : Nat) : F_impl_ValidAir d h s r = some (validAirB d h s r) := by
  obtain ⟨p1, q1⟩ := impl_arePositive_of (impl_arePositive_two d h)
  obtain ⟨p2, q2⟩ := impl_isLeast_of (impl_isLeast_eq s)
  obtain ⟨p3, q3⟩ := impl_isFromTo_of (impl_isFromTo_eq r 0 1065353216)
  unfold F_impl_ValidAir validAirB
  simp only [p1, p2, p3, q1, q2, q3, grd_true]
  cases posB d <;> cases posB h <;> cases leastB s <;> rfl
theorem spec_l04Is_eq (d h s r : Nat) : F_spec_l04Is d h s r = some (validAirB d h s r) := by
  obtain ⟨p1, q1⟩ := spec_l02Above_of (spec_l02Above_eq d)
  obtain ⟨p2, q2⟩ := spec_l02Above_of (spec_l02Above_eq h)
  obtain ⟨p3, q3⟩ := spec_l02Least_of (spec_l02Least_eq s)
  obtain ⟨p4, q4⟩ := spec_l04Share_of (spec_l04Share_eq r)
  unfold F_spec_l04Is validAirB
  simp only [p1, p2, p3, p4, q1, q2, q3, q4, grd_true]
  exact same4 _ _ _ _
theorem spec_ValidAir_eq (d h s r : Nat) : F_spec_ValidAir d h s r = some (validAirB d h s r) := by
  obtain ⟨p1, q1⟩ := spec_l04Is_of (spec_l04Is_eq d h s r)
  unfold F_spec_ValidAir
  rw [p1, q1]; rfl

def airPower (d s : Nat) : Nat := fop .mul .f32 (fop .mul .f32 (fop .mul .f32 (fop .mul .f32 1056964608 d) s) s) s
def airPowerR (d s : Nat) : Nat × Bool := if (leastB d && leastB s) = true then (checkV (airPower d s), finB (airPower d s)) else (0, false)
theorem spec_AirPower_eq (d s : Nat) : F_spec_AirPower d s = some (airPowerR d s) := by
  obtain ⟨p1, q1⟩ := spec_l02Least_of (spec_l02Least_eq d)
  obtain ⟨p2, q2⟩ := spec_l02Least_of (spec_l02Least_eq s)
  obtain ⟨p3, q3⟩ := spec_l04Power_of (show F_spec_l04Power d s = some (airPower d s) from rfl)
  obtain ⟨p4, q4, q5⟩ := spec_l02Number_of (spec_l02Number_eq (airPower d s))
  unfold F_spec_AirPower airPowerR
  simp only [p1, p2, p3, p4, q1, q2, q3, q4, q5, grd_true, bnot]
  cases leastB d <;> cases leastB s <;> rfl
theorem impl_AirPower_eq (d s : Nat) : F_impl_AirPower d s = some (airPowerR d s) := by
  obtain ⟨p1, q1⟩ := impl_areLeast_of (impl_areLeast_two d s)
  obtain ⟨p4, q4, q5⟩ := impl_checked_of (impl_checked_eq (airPower d s))
  unfold F_impl_AirPower airPowerR
  rw [half_eq]
  unfold airPower at p4 q4 q5 ⊢
  simp only [p1, p4, q1, q4, q5, grd_true, bnot]
  cases leastB d <;> cases leastB s <;> rfl
def densityAt (d z : Nat) : Nat := fop .quo .f32 d (fop .add .f32 1065353216 (fop .quo .f32 z 1174720512))
def densityR (d h s r z : Nat) : Nat × Bool := if (validAirB d h s r && leastB z) = true then (checkV (densityAt d z), finB (densityAt d z)) else (0, false)
theorem spec_DensityAtHeight_eq (d h s r z : Nat) : F_spec_DensityAtHeight d h s r z = some (densityR d h s r z) := by
  obtain ⟨p1, q1⟩ := spec_l04Is_of (spec_l04Is_eq d h s r)
  obtain ⟨p2, q2⟩ := spec_l02Least_of (spec_l02Least_eq z)
  obtain ⟨p4, q4, q5⟩ := spec_l02Number_of (spec_l02Number_eq (densityAt d z))
  unfold F_spec_DensityAtHeight densityR
  unfold densityAt at p4 q4 q5 ⊢
  simp only [p1, p2, p4, q1, q2, q4, q5, grd_true, bnot]
  cases validAirB d h s r <;> cases leastB z <;> rfl
theorem impl_DensityAtHeight_eq (d h s r z : Nat) : F_impl_DensityAtHeight d h s r z = some (densityR d h s r z) := by
  obtain ⟨p1, q1⟩ := impl_ValidAir_of (impl_ValidAir_eq d h s r)
  obtain ⟨p2, q2⟩ := impl_isLeast_of (impl_isLeast_eq z)
  obtain ⟨p4, q4, q5⟩ := impl_checked_of (impl_checked_eq (densityAt d z))
  unfold F_impl_DensityAtHeight densityR
  unfold densityAt at p4 q4 q5 ⊢
  simp only [p1, p2, p4, q1, q2, q4, q5, grd_true, bnot]
  cases validAirB d h s r <;> cases leastB z <;> rfl
noncomputable def speedAt (d h s r z : Nat) : Nat := spec_l04Speed_v0 d h s r z
theorem speedAt_eq (d h s r z : Nat) : speedAt d h s r z = fop .mul .f32 s (fop .add .f32 1065353216 (fop .mul .f32 r (fop .quo .f32 (fop .sub .f32 z h) (fop .add .f32 z h)))) := rfl
theorem spec_l04Speed_p_eq (d h s r z : Nat) : spec_l04Speed_p d h s r z = true := rfl
noncomputable def speedR (d h s r z : Nat) : Nat × Bool := if (validAirB d h s r && leastB z) = true then (checkV (speedAt d h s r z), finB (speedAt d h s r z)) else (0, false)
theorem spec_SpeedAtHeight_eq (d h s r z : Nat) : F_spec_SpeedAtHeight d h s r z = some (speedR d h s r z) := by
  obtain ⟨p1, q1⟩ := spec_l04Is_of (spec_l04Is_eq d h s r)
  obtain ⟨p2, q2⟩ := spec_l02Least_of (spec_l02Least_eq z)
  obtain ⟨p4, q4, q5⟩ := spec_l02Number_of (spec_l02Number_eq (speedAt d h s r z))
  unfold F_spec_SpeedAtHeight speedR
  unfold speedAt at p4 q4 q5 ⊢
  simp only [p1, p2, p4, q1, q2, q4, q5, spec_l04Speed_p_eq, grd_true, bnot]
  cases validAirB d h s r <;> cases leastB z <;> rfl
theorem impl_SpeedAtHeight_eq (d h s r z : Nat) : F_impl_SpeedAtHeight d h s r z = some (speedR d h s r z) := by
  obtain ⟨p1, q1⟩ := impl_ValidAir_of (impl_ValidAir_eq d h s r)
  obtain ⟨p2, q2⟩ := impl_isLeast_of (impl_isLeast_eq z)
  obtain ⟨p4, q4, q5⟩ := impl_checked_of (impl_checked_eq (speedAt d h s r z))
  unfold F_impl_SpeedAtHeight speedR
  rw [speedAt_eq] at p4 q4 q5 ⊢
  simp only [p1, p2, p4, q1, q2, q4, q5, grd_true, bnot]
  cases validAirB d h s r <;> cases leastB z <;> rfl
end Go.Rf
