/-
  Plain laws: numbers that are finite, least, positive; rows that are copied and held against each other.
-/
import Derived.Test.YtohhkgieggfpeaaP8
import Derived.Test.YtohhkgieggfpeaaPl0
set_option linter.unusedVariables false
set_option linter.unusedSimpArgs false
namespace Go.Rf
open Go

def finB (x : Nat) : Bool := fcmp .eql .f32 (fop .sub .f32 x x) 0
def leastB (x : Nat) : Bool := finB x && fcmp .geq .f32 x 0
def posB (x : Nat) : Bool := finB x && fcmp .gtr .f32 x 0

theorem floatBits_nan {op : BinOp} {k : FloatKind} {x y : Nat} (h : nanB k x = true ∨ nanB k y = true) : floatBits op k x y = none := by
  unfold floatBits
  rcases h with h | h
  · obtain ⟨s, f, e⟩ := nan_form h
    cases op <;> simp only [Ieee.Format.add, Ieee.Format.sub, Ieee.Format.mul, Ieee.Format.div, e, sum_nan_left, product_nan_left, quotient_nan_left, Option.map_none]
  · obtain ⟨s, f, e⟩ := nan_form h
    cases op <;> simp only [Ieee.Format.add, Ieee.Format.sub, Ieee.Format.mul, Ieee.Format.div, e, sum_nan_right, product_nan_right, quotient_nan_right, Option.map_none, Ieee.Datum.opposite]
theorem fop_nan {op : BinOp} {k : FloatKind} {x y : Nat} (h : nanB k x = true ∨ nanB k y = true) : fop op k x y = qn k := by
  unfold fop
  rw [floatBits_nan h]; rfl
theorem fin_num {x : Nat} (h : finB x = true) : nanB .f32 x = false := by
  cases hn : nanB .f32 x with
  | false => rfl
  | true =>
    unfold finB at h
    rw [fop_nan (.inl hn), (fcmp_nan .f32 (.inl (nanB_qn .f32))).1] at h
    cases h
theorem nan_zero : nanB .f32 0 = false := by decide +kernel
theorem leq_not_gtr {x y : Nat} (hx : nanB .f32 x = false) (hy : nanB .f32 y = false) : fcmp .leq .f32 x y = !fcmp .gtr .f32 x y := by
  obtain ⟨_, _, _, h4, h5, _⟩ := fcmp_num .f32 hx hy
  rw [h4, h5]
  by_cases h : srung FloatKind.f32.format x ≤ srung FloatKind.f32.format y
  · rw [decide_eq_true h, decide_eq_false (by omega)]; rfl
  · rw [decide_eq_false h, decide_eq_true (by omega)]; rfl

/-! ### Single numbers -/
theorem impl_IsFinite_eq (x : Nat) : F_impl_IsFinite x = some (finB x) := rfl
theorem spec_l01Finite_eq (x : Nat) : F_spec_l01Finite x = some (finB x) := rfl
theorem impl_isLeast_eq (x : Nat) : F_impl_isLeast x = some (leastB x) := by
  obtain ⟨h1, h2⟩ := impl_IsFinite_of (impl_IsFinite_eq x)
  unfold F_impl_isLeast leastB
  rw [h1, h2]
  cases finB x <;> rfl
theorem spec_l02Least_eq (x : Nat) : F_spec_l02Least x = some (leastB x) := by
  obtain ⟨h1, h2⟩ := spec_l01Finite_of (spec_l01Finite_eq x)
  unfold F_spec_l02Least leastB
  rw [h1, h2]
  cases finB x <;> rfl
theorem spec_l02Above_eq (x : Nat) : F_spec_l02Above x = some (posB x) := by
  obtain ⟨h1, h2⟩ := spec_l01Finite_of (spec_l01Finite_eq x)
  unfold F_spec_l02Above posB
  rw [h1, h2]
  cases finB x <;> rfl
theorem impl_arePositive_1_eq (x : Nat) : F_impl_arePositive_1 x = some (!posB x) := by
  obtain ⟨h1, h2⟩ := impl_IsFinite_of (impl_IsFinite_eq x)
  unfold F_impl_arePositive_1 posB
  rw [h1, h2]
  cases hf : finB x with
  | false => rfl
  | true => simp only [br_if, grd_true, bnot, Bool.not_true, leq_not_gtr (fin_num hf) nan_zero]; simp
theorem impl_areLeast_1_eq (x : Nat) : F_impl_areLeast_1 x = some (!leastB x) := by
  obtain ⟨h1, h2⟩ := impl_isLeast_of (impl_isLeast_eq x)
  unfold F_impl_areLeast_1
  rw [h1, h2]; rfl
def checkV (x : Nat) : Nat := if finB x then x else 0
theorem impl_checked_eq (x : Nat) : F_impl_checked x = some (checkV x, finB x) := by
  obtain ⟨h1, h2⟩ := impl_IsFinite_of (impl_IsFinite_eq x)
  unfold F_impl_checked checkV
  rw [h1, h2]
  cases finB x <;> rfl
theorem spec_l02Number_eq (x : Nat) : F_spec_l02Number x = some (checkV x, finB x) := by
  obtain ⟨h1, h2⟩ := spec_l01Finite_of (spec_l01Finite_eq x)
  unfold F_spec_l02Number checkV
  rw [h1, h2]
  cases finB x <;> rfl
theorem laws_sameFloat_refl (x : Nat) : F_laws_sameFloat x x = some true := by
  unfold F_laws_sameFloat
  simp only [neq_self]
  cases hn : nanB .f64 x with
  | true => rfl
  | false =>
    have he : fcmp .eql .f64 x x = true := by rw [(fcmp_num .f64 hn hn).1]; simp
    simp only [br_if, Bool.false_eq_true, if_false, he, beqB, BEq.rfl]
    split <;> rfl

/-! ### Rows -/
theorem slices_IndexFunc_areLeast {xs : List Nat} (hl : xs.length < 281474976710656) : ∃ r : Int, F_slices_IndexFunc_sf32_f32_areLeast_1 xs.length xs = some r ∧ leI 0 r = !xs.all leastB := by
  unfold F_slices_IndexFunc_sf32_f32_areLeast_1
  rcases scan_all (L := L_slices_IndexFunc_sf32_f32_areLeast_1_l2 xs.length (Int.ofNat xs.length) xs) xs leastB (g := fun i => Int.ofNat i) (e := (Int.ofNat xs.length, false))
    (fun n i hi => by
      rw [L_slices_IndexFunc_sf32_f32_areLeast_1_l2_succ, ltN_t hi, okIx_t hi, ix1, addI1 (by omega)]
      simp only [gF]
      generalize xs.getD i 0 = x
      obtain ⟨h1, h2⟩ := impl_IsFinite_of (impl_IsFinite_eq x)
      simp only [br_if, grd_true, h1, h2, leastB, bnot]
      rcases Bool.eq_false_or_eq_true (finB x) with h | h <;> rcases Bool.eq_false_or_eq_true (fcmp .geq .f32 x 0) with h' | h' <;> simp [h, h'])
    (fun n => by rw [L_slices_IndexFunc_sf32_f32_areLeast_1_l2_succ, ltN_f (Nat.le_refl _)]; rfl) hl with ⟨h1, h2⟩ | ⟨j, h2, h3, h4⟩
  · obtain ⟨g1, g2, _⟩ := slices_IndexFunc_sf32_f32_areLeast_1_l2_of1 rfl h2
    exact ⟨Int.negSucc 0, by rw [g1, g2]; rfl, by rw [h1]; rfl⟩
  · obtain ⟨g1, g2, g3⟩ := slices_IndexFunc_sf32_f32_areLeast_1_l2_of0 rfl h4
    exact ⟨Int.ofNat j, by rw [g1, g2, g3]; rfl, by rw [h3]; exact decide_eq_true (by simp)⟩
theorem slices_ContainsFunc_areLeast {xs : List Nat} (hl : xs.length < 281474976710656) : F_slices_ContainsFunc_sf32_f32_areLeast_1 xs.length xs = some (!xs.all leastB) := by
  obtain ⟨r, h1, h2⟩ := slices_IndexFunc_areLeast hl
  obtain ⟨g1, g2⟩ := slices_IndexFunc_sf32_f32_areLeast_1_of h1
  unfold F_slices_ContainsFunc_sf32_f32_areLeast_1
  rw [pF_all, g1, g2, h2]; rfl
theorem impl_areLeast_eq {xs : List Nat} (hl : xs.length < 281474976710656) : F_impl_areLeast xs.length xs = some (xs.all leastB) := by
  obtain ⟨g1, g2⟩ := slices_ContainsFunc_sf32_f32_areLeast_1_of (slices_ContainsFunc_areLeast hl)
  unfold F_impl_areLeast
  rw [pF_all, g1, g2]
  simp [grd_true, bnot]
theorem slices_IndexFunc_arePositive {xs : List Nat} (hl : xs.length < 281474976710656) : ∃ r : Int, F_slices_IndexFunc_sf32_f32_arePositive_1 xs.length xs = some r ∧ leI 0 r = !xs.all posB := by
  unfold F_slices_IndexFunc_sf32_f32_arePositive_1
  rcases scan_all (L := L_slices_IndexFunc_sf32_f32_arePositive_1_l2 xs.length (Int.ofNat xs.length) xs) xs posB (g := fun i => Int.ofNat i) (e := (Int.ofNat xs.length, false))
    (fun n i hi => by
      rw [L_slices_IndexFunc_sf32_f32_arePositive_1_l2_succ, ltN_t hi, okIx_t hi, ix1, addI1 (by omega)]
      simp only [gF]
      generalize xs.getD i 0 = x
      obtain ⟨h1, h2⟩ := impl_IsFinite_of (impl_IsFinite_eq x)
      simp only [br_if, grd_true, h1, h2, posB, bnot]
      rcases Bool.eq_false_or_eq_true (finB x) with h | h
      · rw [leq_not_gtr (fin_num h) nan_zero]
        rcases Bool.eq_false_or_eq_true (fcmp .gtr .f32 x 0) with h' | h' <;> simp [h, h']
      · simp [h])
    (fun n => by rw [L_slices_IndexFunc_sf32_f32_arePositive_1_l2_succ, ltN_f (Nat.le_refl _)]; rfl) hl with ⟨h1, h2⟩ | ⟨j, h2, h3, h4⟩
  · obtain ⟨g1, g2, _⟩ := slices_IndexFunc_sf32_f32_arePositive_1_l2_of1 rfl h2
    exact ⟨Int.negSucc 0, by rw [g1, g2]; rfl, by rw [h1]; rfl⟩
  · obtain ⟨g1, g2, g3⟩ := slices_IndexFunc_sf32_f32_arePositive_1_l2_of0 rfl h4
    exact ⟨Int.ofNat j, by rw [g1, g2, g3]; rfl, by rw [h3]; exact decide_eq_true (by simp)⟩
theorem slices_ContainsFunc_arePositive {xs : List Nat} (hl : xs.length < 281474976710656) : F_slices_ContainsFunc_sf32_f32_arePositive_1 xs.length xs = some (!xs.all posB) := by
  obtain ⟨r, h1, h2⟩ := slices_IndexFunc_arePositive hl
  obtain ⟨g1, g2⟩ := slices_IndexFunc_sf32_f32_arePositive_1_of h1
  unfold F_slices_ContainsFunc_sf32_f32_arePositive_1
  rw [pF_all, g1, g2, h2]; rfl
theorem impl_arePositive_eq {xs : List Nat} (hl : xs.length < 281474976710656) : F_impl_arePositive xs.length xs = some (xs.all posB) := by
  obtain ⟨g1, g2⟩ := slices_ContainsFunc_sf32_f32_arePositive_1_of (slices_ContainsFunc_arePositive hl)
  unfold F_impl_arePositive
  rw [pF_all, g1, g2]
  simp [grd_true, bnot]
/-- Two numbers. -/
theorem impl_areLeast_two (x y : Nat) : F_impl_areLeast 2 (pF [x, y] 0 (muN 2 1)) = some (leastB x && leastB y) := by
  have := impl_areLeast_eq (xs := [x, y]) (by simp)
  simpa [pF, muN] using this
theorem impl_arePositive_two (x y : Nat) : F_impl_arePositive 2 (pF [x, y] 0 (muN 2 1)) = some (posB x && posB y) := by
  have := impl_arePositive_eq (xs := [x, y]) (by simp)
  simpa [pF, muN] using this
def fromToB (x low high : Nat) : Bool := fcmp .geq .f32 x low && fcmp .leq .f32 x high
theorem impl_isFromTo_eq (x low high : Nat) : F_impl_isFromTo x low high = some (fromToB x low high) := by
  unfold F_impl_isFromTo fromToB
  rcases Bool.eq_false_or_eq_true (fcmp .geq .f32 x low) with h | h <;> simp [h, br_if]
theorem spec_l04Share_eq (x : Nat) : F_spec_l04Share x = some (fromToB x 0 1065353216) := by
  unfold F_spec_l04Share fromToB
  rcases Bool.eq_false_or_eq_true (fcmp .geq .f32 x 0) with h | h <;> simp [h, br_if]

theorem laws_szFloat32S_eq (n : Nat) (xs : List Nat) (left : Int) : ∃ r, F_laws_szFloat32S n xs left = some r ∧ (0 ≤ left → left ≤ 1048576 → n ≤ 9223372036854775807 → (0 ≤ r → r = left - n ∧ (n : Int) ≤ left) ∧ r ≤ 1048576) := by
  unfold F_laws_szFloat32S
  by_cases h : subI .i64 left (Int.ofNat n) < 0
  · rw [ltI_t h]
    exact ⟨_, rfl, fun _ _ _ => ⟨fun q => by simp at q, by decide⟩⟩
  · rw [ltI_f h]
    refine ⟨_, rfl, fun h1 h2 h3 => ?_⟩
    have e : subI .i64 left (Int.ofNat n) = left - n := wrap64 (by simp; omega) (by simp; omega)
    rw [e] at h ⊢
    exact ⟨fun _ => ⟨rfl, by omega⟩, by omega⟩

theorem laws_toFloat32S_eq {xs : List Nat} (hl : xs.length ≤ 1099511627776) : F_laws_toFloat32S xs.length xs = some (xs.length, xs) := by
  have hf := folds (L := L_laws_toFloat32S_l3 xs.length xs.length xs) (len := xs.length) (fun i s => s.set i (xs.getD i 0)) (e := fun s => (Int.ofNat xs.length, false, s))
    (fun n i s hi => by rw [L_laws_toFloat32S_l3_succ, ltN_t hi, okIx_t hi, ix1, addI1 (by omega)]; rfl)
    (fun n s => by rw [L_laws_toFloat32S_l3_succ, ltN_f (Nat.le_refl _)]; rfl) xs.length 0 big (List.replicate xs.length 0) (by omega) (big_gt (by omega))
  rw [copy_fold xs _ _ _ (by omega) (by simp)] at hf
  simp only [List.take_zero, List.drop_zero, List.nil_append] at hf
  obtain ⟨g1, _, _, g2⟩ := laws_toFloat32S_l3_of0 rfl hf
  have e : rF (muN (toN (Int.ofNat xs.length)) 1) = List.replicate xs.length 0 := by simp [rF, muN, toN]
  have ho : okMk (Int.ofNat xs.length) (Int.ofNat xs.length) 4 = true := decide_eq_true ⟨rfl, by simp, by simp; omega, by decide⟩
  unfold F_laws_toFloat32S
  rw [e, ho, toN_nat]
  show grd (laws_toFloat32S_l3_p xs.length xs.length xs (Int.ofNat 0) (List.replicate xs.length 0)) (some (_, laws_toFloat32S_l3_a0_2 xs.length xs.length xs (Int.ofNat 0) (List.replicate xs.length 0))) = _
  rw [g1, g2]; rfl

theorem laws_eqFloat32S_refl {xs : List Nat} (hl : xs.length < 281474976710656) : F_laws_eqFloat32S xs.length xs xs.length xs = some true := by
  have hn : neI (Int.ofNat xs.length) (Int.ofNat xs.length) = false := by simp [neI]
  unfold F_laws_eqFloat32S
  rw [hn]
  rcases scan_all (L := L_laws_eqFloat32S_l4 xs.length xs.length xs xs) xs (fun _ => true) (g := fun i => ()) (e := (Int.ofNat xs.length, false))
    (fun n i hi => by
      obtain ⟨h1, h2⟩ := laws_sameFloat_of (laws_sameFloat_refl (fcvV FloatKind.f32 FloatKind.f64 (gF xs i)))
      rw [L_laws_eqFloat32S_l4_succ, ltN_t hi, okIx_t hi, ix1, addI1 (by omega), h1, h2]
      rfl)
    (fun n => by rw [L_laws_eqFloat32S_l4_succ, ltN_f (Nat.le_refl _)]; rfl) hl with ⟨h1, h2⟩ | ⟨j, h2, h3, h4⟩
  · obtain ⟨g1, g2, _⟩ := laws_eqFloat32S_l4_of1 rfl h2
    rw [g1, g2]; rfl
  · simp at h3
end Go.Rf
