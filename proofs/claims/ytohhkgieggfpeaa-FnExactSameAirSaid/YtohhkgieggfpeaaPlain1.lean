/-
  Two floats are the same: the program's test and the reference's test say that their one-form words are equal.
-/
import Derived.Test.YtohhkgieggfpeaaS5
import Derived.Test.YtohhkgieggfpeaaOrd
set_option linter.unusedVariables false
namespace Go.Proofs.Ytohhkgieggfpeaa
open Go Go.Rf

theorem bits_id {x : Nat} (h : canW .f32 x) : v51_0 x = (x : Int) := by
  obtain ⟨h1, h2⟩ := h
  unfold v51_0
  rw [neq_self]
  cases hn : nanB .f32 x with
  | true =>
    rw [cn_of_nan hn] at h2
    subst h2
    rfl
  | false =>
    show IntKind.i64.wrap (Int.ofNat x) = x
    have h32 : (2 : Nat) ^ FloatKind.f32.format.width = 4294967296 := by decide
    rw [h32] at h1
    simp [IntKind.wrap, IntKind.bits, IntKind.signed]
    omega
theorem ref_same {x y : Nat} (hx : canW .f32 x) (hy : canW .f32 y) : v42_0 x y = decide (x = y) := by
  unfold v42_0
  rw [bits_id hx, bits_id hy]
  show decide ((x : Int) = y) = _
  by_cases h : x = y
  · subst h; simp
  · rw [decide_eq_false h, decide_eq_false (by omega)]
theorem ref_owed {x y : Nat} : p42 x y = true := by
  unfold p42 p51
  rw [neq_self, neq_self]
  simp only [nanQ]
  cases nanB .f32 x <;> cases nanB .f32 y <;> rfl
theorem sign_of {x : Nat} (h : nanB .f32 x = false) : v43_0 (fcvV .f32 .f64 x) = ngB Ieee.single x := up_sign h
theorem sign_owed {x : Nat} (h : nanB .f32 x = false) : p43 (fcvV .f32 .f64 x) = true := by
  show (!nanB .f64 (fcvV .f32 .f64 x)) = true
  rw [up_nan h]; rfl
theorem prog_owed {x y : Nat} : p27 x y = true := by
  unfold p27
  rw [neq_self, neq_self]
  cases hx : nanB .f32 x
  · cases hy : nanB .f32 y
    · rw [sign_owed hx, sign_owed hy]
      cases fcmp .eql .f32 x y <;> rfl
    · rfl
  · rfl
theorem prog_same {x y : Nat} (hx : canW .f32 x) (hy : canW .f32 y) : v27_0 x y = decide (x = y) := by
  unfold v27_0
  rw [neq_self, neq_self]
  cases nx : nanB .f32 x
  · cases ny : nanB .f32 y
    · rw [sign_of nx, sign_of ny, (fcmp_num .f32 nx ny).1]
      show (br (decide (srung Ieee.single x = srung Ieee.single y)) (ngB Ieee.single x == ngB Ieee.single y) false) = _
      have h32 : (2 : Nat) ^ FloatKind.f32.format.width = 2 ^ 32 := by decide
      have key := same_word (x := x) (y := y) (by rw [← h32]; exact hx.1) (by rw [← h32]; exact hy.1)
      by_cases h : srung Ieee.single x = srung Ieee.single y
      · rw [decide_eq_true h]
        show (ngB Ieee.single x == ngB Ieee.single y) = _
        by_cases h' : ngB Ieee.single x = ngB Ieee.single y
        · rw [decide_eq_true (key.1 ⟨h, h'⟩), h']; simp
        · rw [decide_eq_false (fun e => h' (key.2 e).2)]
          simpa using h'
      · rw [decide_eq_false h, decide_eq_false (fun e => h (key.2 e).1)]
        rfl
    · rw [decide_eq_false (fun e => by subst e; rw [nx] at ny; cases ny)]
      rfl
  · cases ny : nanB .f32 y
    · rw [decide_eq_false (fun e => by subst e; rw [nx] at ny; cases ny)]
      rfl
    · have e1 : x = qn .f32 := by rw [← cn_of_nan nx]; exact hx.2.symm
      have e2 : y = qn .f32 := by rw [← cn_of_nan ny]; exact hy.2.symm
      rw [e1, e2]; simp [br]
theorem same_eq {x y : Nat} (hx : canW .f32 x) (hy : canW .f32 y) : v27_0 x y = v42_0 x y := (prog_same hx hy).trans (ref_same hx hy).symm

theorem law_same {a b c d e f g h : Nat} (ha : canW .f32 a) (hb : canW .f32 b) (hc : canW .f32 c) (hd : canW .f32 d) (he : canW .f32 e) (hf : canW .f32 f) (hg : canW .f32 g) (hh : canW .f32 h) :
    p3 a b c d e f g h = true ∧ v3_0 a b c d e f g h = true := by
  have h1 : v11_0 a b c d e f g h = v9_0 a b c d e f g h := by
    unfold v11_0 v9_0 v26_0
    rw [same_eq ha he, same_eq hb hf, same_eq hc hg, same_eq hd hh]
  refine ⟨?_, ?_⟩
  · have e1 : p9 a b c d e f g h = true := by
      unfold p9 p26
      simp only [ref_owed]
      cases v42_0 a e <;> cases v42_0 b f <;> cases v42_0 c g <;> rfl
    have e2 : p11 a b c d e f g h = true := by
      unfold p11
      simp only [prog_owed]
      cases v27_0 a e <;> cases v27_0 b f <;> cases v27_0 c g <;> rfl
    unfold p3
    rw [e1, e2]; rfl
  · unfold v3_0
    rw [h1]
    cases v9_0 a b c d e f g h <;> rfl
end Go.Proofs.Ytohhkgieggfpeaa
