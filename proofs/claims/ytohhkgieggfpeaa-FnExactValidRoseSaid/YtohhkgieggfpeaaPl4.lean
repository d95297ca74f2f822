/-
  Plain laws of roses: valid ones.
-/
import Derived.Test.YtohhkgieggfpeaaPl3
set_option linter.unusedVariables false
set_option linter.unusedSimpArgs false
namespace Go.Rf
open Go

theorem laws_szRose_eq {xs ys : List Nat} (hx : xs.length ≤ maxLen) (hy : ys.length ≤ maxLen) : ∃ r, F_laws_szRose xs.length xs ys.length ys 1048576 = some r ∧ (0 ≤ r → xs.length + ys.length ≤ 1048576) := by
  have hm : maxLen = 9223372036854775807 := by decide
  rw [hm] at hx hy
  obtain ⟨r1, h1, k1⟩ := laws_szFloat32S_eq xs.length xs 1048576
  obtain ⟨p1, q1⟩ := laws_szFloat32S_of h1
  obtain ⟨k1, k1'⟩ := k1 (by decide) (by decide) hx
  obtain ⟨r2, h2, k2⟩ := laws_szFloat32S_eq ys.length ys r1
  obtain ⟨p2, q2⟩ := laws_szFloat32S_of h2
  unfold F_laws_szRose
  simp only [pF_all, p1, q1, grd_true, p2, q2]
  by_cases c1 : r1 < 0
  · rw [ltI_t c1]
    exact ⟨_, rfl, fun h => by simp at h⟩
  · rw [ltI_f c1]
    obtain ⟨e1, e2⟩ := k1 (by omega)
    obtain ⟨k2, k2'⟩ := k2 (by omega) (by omega) hy
    by_cases c2 : r2 < 0
    · rw [ltI_t c2]
      exact ⟨_, rfl, fun h => by simp at h⟩
    · rw [ltI_f c2]
      obtain ⟨e3, e4⟩ := k2 (by omega)
      exact ⟨_, rfl, fun h => by omega⟩
theorem laws_toRose_eq {xs ys : List Nat} (hx : xs.length ≤ 1099511627776) (hy : ys.length ≤ 1099511627776) : F_laws_toRose xs.length xs ys.length ys = some (xs.length, ys.length, xs, ys) := by
  obtain ⟨p1, q1, r1⟩ := laws_toFloat32S_of (laws_toFloat32S_eq hx)
  obtain ⟨p2, q2, r2⟩ := laws_toFloat32S_of (laws_toFloat32S_eq hy)
  unfold F_laws_toRose
  simp only [pF_all, p1, q1, r1, p2, q2, r2, grd_true]
theorem laws_eqRose_refl {xs ys : List Nat} (hx : xs.length < 281474976710656) (hy : ys.length < 281474976710656) : F_laws_eqRose xs.length xs ys.length ys xs.length xs ys.length ys = some true := by
  obtain ⟨p1, q1⟩ := laws_eqFloat32S_of (laws_eqFloat32S_refl hx)
  obtain ⟨p2, q2⟩ := laws_eqFloat32S_of (laws_eqFloat32S_refl hy)
  unfold F_laws_eqRose
  simp only [pF_all, p1, q1, p2, q2, grd_true]
  rfl

def validRoseB (xs ys : List Nat) : Bool := decide (1 ≤ xs.length) && (decide (xs.length ≤ 16) && (decide (ys.length = xs.length) && (xs.all leastB && ys.all leastB)))
theorem impl_ValidRose_eq {xs ys : List Nat} (hx : xs.length < 281474976710656) (hy : ys.length < 281474976710656) : F_impl_ValidRose xs.length xs ys.length ys = some (validRoseB xs ys) := by
  obtain ⟨p1, q1⟩ := impl_areLeast_of (impl_areLeast_eq hx)
  obtain ⟨p2, q2⟩ := impl_areLeast_of (impl_areLeast_eq hy)
  have e1 : leI 1 (Int.ofNat xs.length) = decide (1 ≤ xs.length) := by by_cases h : 1 ≤ xs.length <;> simp [leI, h] <;> omega
  have e2 : leI (Int.ofNat xs.length) 16 = decide (xs.length ≤ 16) := by by_cases h : xs.length ≤ 16 <;> simp [leI, h] <;> omega
  have e3 : eqI (Int.ofNat ys.length) (Int.ofNat xs.length) = decide (ys.length = xs.length) := by by_cases h : ys.length = xs.length <;> simp [eqI, h] <;> omega
  unfold F_impl_ValidRose validRoseB
  simp only [pF_all, p1, q1, p2, q2, grd_true]
  rw [e1, e2, e3]
  cases decide (1 ≤ xs.length) <;> cases decide (xs.length ≤ 16) <;> cases decide (ys.length = xs.length) <;> cases xs.all leastB <;> rfl
theorem all_zip {p : Nat → Bool} {xs ys : List Nat} (h : ys.length = xs.length) : (xs.all p && ys.all p) = true ↔ ∀ j, j < xs.length → (p (xs.getD j 0) && p (ys.getD j 0)) = true := by
  rw [Bool.and_eq_true, List.all_eq_true, List.all_eq_true]
  constructor
  · rintro ⟨h1, h2⟩ j hj
    rw [Bool.and_eq_true]
    refine ⟨h1 _ ?_, h2 _ ?_⟩
    · rw [List.getD_eq_getElem?_getD, List.getElem?_eq_getElem hj]; exact List.getElem_mem _
    · rw [List.getD_eq_getElem?_getD, List.getElem?_eq_getElem (by omega)]; exact List.getElem_mem _
  · intro hh
    refine ⟨fun x hx => ?_, fun y hy => ?_⟩
    · obtain ⟨j, hj, rfl⟩ := List.getElem_of_mem hx
      have := (Bool.and_eq_true _ _ ▸ hh j hj).1
      simpa [List.getD_eq_getElem?_getD, hj] using this
    · obtain ⟨j, hj, rfl⟩ := List.getElem_of_mem hy
      have := (Bool.and_eq_true _ _ ▸ hh j (by omega)).2
      simpa [List.getD_eq_getElem?_getD, hj] using this
theorem spec_l04Rose_eq {xs ys : List Nat} (hx : xs.length < 281474976710656) : F_spec_l04Rose xs.length xs ys.length ys = some (validRoseB xs ys) := by
  unfold F_spec_l04Rose validRoseB
  by_cases h1 : 1 ≤ xs.length
  · have e1 : ltI (Int.ofNat xs.length) 1 = false := ltI_f (by simp; omega)
    rw [e1, decide_eq_true h1]
    by_cases h2 : xs.length ≤ 16
    · have e2 : ltI 16 (Int.ofNat xs.length) = false := ltI_f (by simp; omega)
      rw [e2, decide_eq_true h2]
      by_cases h3 : ys.length = xs.length
      · have e3 : neI (Int.ofNat ys.length) (Int.ofNat xs.length) = false := by simp [neI, h3]
        rw [e3, decide_eq_true h3]
        simp only [br_false, Bool.true_and]
        rcases scan (L := L_spec_l04Rose_l5 (Int.ofNat xs.length) xs ys xs.length ys.length) (len := xs.length) (fun j => leastB (xs.getD j 0) && leastB (ys.getD j 0)) (g := fun _ => ()) (e := (Int.ofNat xs.length, false))
          (fun n i hi => by
            obtain ⟨g1, g2⟩ := spec_l02Least_of (spec_l02Least_eq (xs.getD i 0))
            obtain ⟨g3, g4⟩ := spec_l02Least_of (spec_l02Least_eq (ys.getD i 0))
            rw [L_spec_l04Rose_l5_succ, ltN_t hi, okIx_t hi, ix1, addI1 (by omega), okIx_t (show i < ys.length by omega)]
            simp only [br_true, grd_true, gF, g1, g2, g3, g4]
            cases leastB (xs.getD i 0) <;> cases leastB (ys.getD i 0) <;> rfl)
          (fun n => by rw [L_spec_l04Rose_l5_succ, ltN_f (Nat.le_refl _)]; rfl) xs.length 0 big (by omega) (big_gt hx) with ⟨k1, k2⟩ | ⟨j, k1, k2, k3, k4⟩
        · obtain ⟨g1, g2, _⟩ := spec_l04Rose_l5_of1 rfl k2
          have : (xs.all leastB && ys.all leastB) = true := (all_zip h3).2 fun j hj => k1 j (Nat.zero_le _) hj
          rw [this]
          show grd (spec_l04Rose_l5_p (Int.ofNat xs.length) xs ys xs.length ys.length (Int.ofNat 0)) (br (spec_l04Rose_l5_w0 (Int.ofNat xs.length) xs ys xs.length ys.length (Int.ofNat 0)) _ _) = _
          rw [g1, g2]; rfl
        · obtain ⟨g1, g2⟩ := spec_l04Rose_l5_of0 rfl k4
          have : (xs.all leastB && ys.all leastB) = false := by
            cases hh : (xs.all leastB && ys.all leastB) with
            | false => rfl
            | true => have := (all_zip h3).1 hh j k2; rw [k3] at this; cases this
          rw [this]
          show grd (spec_l04Rose_l5_p (Int.ofNat xs.length) xs ys xs.length ys.length (Int.ofNat 0)) (br (spec_l04Rose_l5_w0 (Int.ofNat xs.length) xs ys xs.length ys.length (Int.ofNat 0)) _ _) = _
          rw [g1, g2]; rfl
      · have e3 : neI (Int.ofNat ys.length) (Int.ofNat xs.length) = true := by simp [neI]; omega
        rw [e3, decide_eq_false h3]; rfl
    · have e2 : ltI 16 (Int.ofNat xs.length) = true := ltI_t (by simp; omega)
      rw [e2, decide_eq_false h2]; rfl
  · have e1 : ltI (Int.ofNat xs.length) 1 = true := ltI_t (by simp; omega)
    rw [e1, decide_eq_false h1]; rfl
theorem spec_ValidRose_eq {xs ys : List Nat} (hx : xs.length < 281474976710656) : F_spec_ValidRose xs.length xs ys.length ys = some (validRoseB xs ys) := by
  obtain ⟨p1, q1⟩ := spec_l04Rose_of (spec_l04Rose_eq (ys := ys) hx)
  unfold F_spec_ValidRose
  simp only [pF_all, p1, q1, grd_true]

theorem plain_FnExactValidRose {xs ys : List Nat} (hx : ∀ x ∈ xs, canW .f32 x) (mx : xs.length ≤ maxLen) (hy : ∀ x ∈ ys, canW .f32 x) (my : ys.length ≤ maxLen) : F_laws_FnExactValidRose xs.length xs ys.length ys = some true := by
  obtain ⟨r, h1, h2⟩ := laws_szRose_eq mx my
  obtain ⟨p1, q1⟩ := laws_szRose_of h1
  unfold F_laws_FnExactValidRose
  simp only [pF_all, p1, q1, grd_true]
  by_cases c : r < 0
  · rw [ltI_t c]; rfl
  · rw [ltI_f c]
    have hl := h2 (by omega)
    obtain ⟨p2, q2, q3, q4, q5⟩ := laws_toRose_of (laws_toRose_eq (xs := xs) (ys := ys) (by omega) (by omega))
    obtain ⟨p3, q6⟩ := spec_ValidRose_of (spec_ValidRose_eq (xs := xs) (ys := ys) (by omega))
    obtain ⟨p4, q7⟩ := impl_ValidRose_of (impl_ValidRose_eq (xs := xs) (ys := ys) (by omega) (by omega))
    obtain ⟨p5, q8⟩ := laws_eqRose_of (laws_eqRose_refl (xs := xs) (ys := ys) (by omega) (by omega))
    simp only [p2, q2, q3, q4, q5, pF_all, p3, q6, p4, q7, p5, q8, grd_true, br_false]
    cases validRoseB xs ys <;> rfl
end Go.Rf
