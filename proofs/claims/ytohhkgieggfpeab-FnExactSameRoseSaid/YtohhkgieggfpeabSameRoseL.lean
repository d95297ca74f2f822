/-
  Plain laws.
-/
import Derived.Test.YtohhkgieggfpeabSameRoseP
set_option linter.unusedVariables false
set_option linter.unusedSimpArgs false
set_option maxRecDepth 100000
set_option maxHeartbeats 4000000
namespace Go.Rf
open Go
theorem laws_sameFloat_refl (x : Nat) : F_laws_sameFloat x x = some true := by
  unfold F_laws_sameFloat T_laws_sameFloat
  simp only [neq_self]
  cases hn : nanB .f64 x with
  | true => rfl
  | false =>
    have he : fcmp .eql .f64 x x = true := by rw [(fcmp_num .f64 hn hn).1]; simp
    simp only [br_if, Bool.false_eq_true, if_false, he, beqB, BEq.rfl]
    split <;> rfl
theorem laws_szFloat32S_eq (n : Nat) (xs : List Nat) (left : Int) : ∃ r, F_laws_szFloat32S n xs left = some r ∧ (0 ≤ left → left ≤ 1048576 → n ≤ 9223372036854775807 → (0 ≤ r → r = left - n ∧ (n : Int) ≤ left) ∧ r ≤ 1048576) := by
  unfold F_laws_szFloat32S T_laws_szFloat32S
  by_cases h : subI .i64 left (Int.ofNat n) < 0
  · rw [ltI_t h]
    exact ⟨_, rfl, fun _ _ _ => ⟨fun q => by simp at q, by decide⟩⟩
  · rw [ltI_f h]
    refine ⟨_, rfl, fun h1 h2 h3 => ?_⟩
    have e : subI .i64 left (Int.ofNat n) = left - n := wrap64 (by simp; omega) (by simp; omega)
    rw [e] at h ⊢
    exact ⟨fun _ => ⟨rfl, by omega⟩, by omega⟩
theorem laws_toFloat32S_eq {xs : List Nat} (hl : xs.length ≤ 1099511627776) : F_laws_toFloat32S xs.length xs = some (xs.length, xs) := by
  have hf := folds (L := L_laws_toFloat32S_l3 xs.length xs.length xs) (len := xs.length) (fun i s => s.set i (xs.getD i 0)) (e := fun s => (Int.ofNat xs.length, false, s))
    (fun n i s hi => by rw [L_laws_toFloat32S_l3_succ]; unfold T_laws_toFloat32S_l3; rw [ltN_t hi, okIx_t hi, ix1, addI1 (by omega)]; rfl)
    (fun n s => by rw [L_laws_toFloat32S_l3_succ]; unfold T_laws_toFloat32S_l3; rw [ltN_f (Nat.le_refl _)]; rfl) xs.length 0 big (List.replicate xs.length 0) (by omega) (big_gt (by omega))
  rw [copy_fold xs _ _ _ (by omega) (by simp)] at hf
  simp only [List.take_zero, List.drop_zero, List.nil_append] at hf
  obtain ⟨g1, _, _, g2⟩ := laws_toFloat32S_l3_of0 rfl hf
  have e : rF (muN (toN (Int.ofNat xs.length)) 1) = List.replicate xs.length 0 := by simp [rF, muN, toN]
  have ho : okMk (Int.ofNat xs.length) (Int.ofNat xs.length) 4 = true := decide_eq_true ⟨rfl, by simp, by simp; omega, by decide⟩
  unfold F_laws_toFloat32S T_laws_toFloat32S
  rw [e, ho, toN_nat]
  show grd (laws_toFloat32S_l3_p xs.length xs.length xs (Int.ofNat 0) (List.replicate xs.length 0)) (some (_, laws_toFloat32S_l3_a0_2 xs.length xs.length xs (Int.ofNat 0) (List.replicate xs.length 0))) = _
  rw [g1, g2]; rfl
theorem laws_eqFloat32S_refl {xs : List Nat} (hl : xs.length < 281474976710656) : F_laws_eqFloat32S xs.length xs xs.length xs = some true := by
  have hn : neI (Int.ofNat xs.length) (Int.ofNat xs.length) = false := by simp [neI]
  unfold F_laws_eqFloat32S T_laws_eqFloat32S
  rw [hn]
  rcases scan_all (L := L_laws_eqFloat32S_l4 xs.length xs.length xs xs) xs (fun _ => true) (g := fun i => ()) (e := (Int.ofNat xs.length, false))
    (fun n i hi => by
      obtain ⟨h1, h2⟩ := laws_sameFloat_of (laws_sameFloat_refl (fcvV FloatKind.f32 FloatKind.f64 (gF xs i)))
      rw [L_laws_eqFloat32S_l4_succ]; unfold T_laws_eqFloat32S_l4; rw [ltN_t hi, okIx_t hi, ix1, addI1 (by omega), h1, h2]
      rfl)
    (fun n => by rw [L_laws_eqFloat32S_l4_succ]; unfold T_laws_eqFloat32S_l4; rw [ltN_f (Nat.le_refl _)]; rfl) hl with ⟨h1, h2⟩ | ⟨j, h2, h3, h4⟩
  · obtain ⟨g1, g2, _⟩ := laws_eqFloat32S_l4_of1 rfl h2
    rw [g1, g2]; rfl
  · simp at h3
theorem spec_l01Bits_eq {x : Nat} (h : canW .f32 x) : F_spec_l01Bits x = some (x : Int) := by
  obtain ⟨h1, h2⟩ := h
  unfold F_spec_l01Bits T_spec_l01Bits
  rw [neq_self]
  cases hn : nanB .f32 x with
  | true =>
    rw [cn_of_nan hn] at h2
    subst h2
    rfl
  | false =>
    have h32 : (2 : Nat) ^ FloatKind.f32.format.width = 4294967296 := by decide
    rw [h32] at h1
    have e : cvI .i64 (Int.ofNat x) = (x : Int) := wrap64 (by simp) (by simp; omega)
    simp only [br_if, nanQ, hn, bnot, grd_true, e]
    rfl
theorem spec_l01Same_eq {x y : Nat} (hx : canW .f32 x) (hy : canW .f32 y) : F_spec_l01Same x y = some (decide (x = y)) := by
  obtain ⟨h1, h2⟩ := spec_l01Bits_of (spec_l01Bits_eq hx)
  obtain ⟨h3, h4⟩ := spec_l01Bits_of (spec_l01Bits_eq hy)
  unfold F_spec_l01Same T_spec_l01Same
  rw [h1, h2, h3, h4]
  simp only [grd_true, eqI]
  by_cases h : x = y
  · subst h; simp
  · rw [decide_eq_false h, decide_eq_false (by omega)]
theorem math_Signbit_eq {x : Nat} (h : nanB .f32 x = false) : F_math_Signbit (fcvV .f32 .f64 x) = some (ngB Ieee.single x) := by
  have e : ltI (cvI IntKind.i64 (Int.ofNat (fcvV .f32 .f64 x))) 0 = ngB Ieee.single x := up_sign h
  unfold F_math_Signbit T_math_Signbit
  rw [e]
  simp only [nanQ, bnot, up_nan h, Bool.not_false, grd_true]
theorem impl_SameNumber_eq {x y : Nat} (hx : canW .f32 x) (hy : canW .f32 y) : F_impl_SameNumber x y = some (decide (x = y)) := by
  unfold F_impl_SameNumber T_impl_SameNumber
  rw [neq_self, neq_self]
  cases nx : nanB .f32 x
  · cases ny : nanB .f32 y
    · obtain ⟨g1, g2⟩ := math_Signbit_of (math_Signbit_eq nx)
      obtain ⟨g3, g4⟩ := math_Signbit_of (math_Signbit_eq ny)
      rw [g1, g2, g3, g4, (fcmp_num .f32 nx ny).1]
      have h32 : (2 : Nat) ^ FloatKind.f32.format.width = 2 ^ 32 := by decide
      have key := same_word (x := x) (y := y) (by rw [← h32]; exact hx.1) (by rw [← h32]; exact hy.1)
      show (br (decide (srung Ieee.single x = srung Ieee.single y)) (some (ngB Ieee.single x == ngB Ieee.single y)) (some false)) = _
      by_cases h : srung Ieee.single x = srung Ieee.single y
      · rw [decide_eq_true h]
        show some (ngB Ieee.single x == ngB Ieee.single y) = _
        by_cases h' : ngB Ieee.single x = ngB Ieee.single y
        · rw [decide_eq_true (key.1 ⟨h, h'⟩), h']; simp
        · rw [decide_eq_false (fun e => h' (key.2 e).2)]
          simpa using h'
      · rw [decide_eq_false h, decide_eq_false (fun e => h (key.2 e).1)]
        rfl
    · rw [decide_eq_false (fun e => by subst e; rw [nx] at ny; cases ny)]
      rfl
  · cases ny : nanB .f32 y
    · rw [decide_eq_false (fun e => by subst e; rw [nx] at ny; cases ny)]
      rfl
    · have e1 : x = qn .f32 := by rw [← cn_of_nan nx]; exact hx.2.symm
      have e2 : y = qn .f32 := by rw [← cn_of_nan ny]; exact hy.2.symm
      rw [e1, e2]; simp [br]
theorem laws_toRose_eq {xs ys : List Nat} (hx : xs.length ≤ 1099511627776) (hy : ys.length ≤ 1099511627776) : F_laws_toRose xs.length xs ys.length ys = some (xs.length, ys.length, xs, ys) := by
  obtain ⟨p1, q1, r1⟩ := laws_toFloat32S_of (laws_toFloat32S_eq hx)
  obtain ⟨p2, q2, r2⟩ := laws_toFloat32S_of (laws_toFloat32S_eq hy)
  unfold F_laws_toRose T_laws_toRose
  simp only [pF_all, p1, q1, r1, p2, q2, r2, grd_true]
theorem laws_eqRose_refl {xs ys : List Nat} (hx : xs.length < 281474976710656) (hy : ys.length < 281474976710656) : F_laws_eqRose xs.length xs ys.length ys xs.length xs ys.length ys = some true := by
  obtain ⟨p1, q1⟩ := laws_eqFloat32S_of (laws_eqFloat32S_refl hx)
  obtain ⟨p2, q2⟩ := laws_eqFloat32S_of (laws_eqFloat32S_refl hy)
  unfold F_laws_eqRose T_laws_eqRose
  simp only [pF_all, p1, q1, p2, q2, grd_true]
  rfl
theorem beqB_self (b : Bool) : beqB b b = true := by cases b <;> rfl
theorem bnot_true : bnot true = false := rfl
theorem get_mem {xs : List Nat} {i : Nat} (h : i < xs.length) : xs.getD i 0 ∈ xs := by
  rw [List.getD_eq_getElem?_getD, List.getElem?_eq_getElem h]; exact List.getElem_mem _
theorem zip_getD {xs ys : List Nat} (h : ys.length = xs.length) : xs = ys ↔ ∀ j, j < xs.length → xs.getD j 0 = ys.getD j 0 := by
  constructor
  · rintro rfl _ _; rfl
  · intro k
    refine List.ext_getElem h.symm fun j h1 h2 => ?_
    have := k j h1
    simpa [List.getD_eq_getElem?_getD, h1, h2] using this
theorem spec_l01SameAll_eq {xs ys : List Nat} (hx : ∀ x ∈ xs, canW .f32 x) (hy : ∀ x ∈ ys, canW .f32 x) (hl : xs.length < 281474976710656) : F_spec_l01SameAll xs.length xs ys.length ys = some (decide (xs = ys)) := by
  unfold F_spec_l01SameAll T_spec_l01SameAll
  by_cases h : ys.length = xs.length
  · have e3 : neI (Int.ofNat xs.length) (Int.ofNat ys.length) = false := by simp [neI, h]
    rw [e3, br_false]
    rcases scan (L := L_spec_l01SameAll_l4 xs.length ys.length xs ys) (len := xs.length) (fun j => decide (xs.getD j 0 = ys.getD j 0)) (g := fun _ => ()) (e := (Int.ofNat xs.length, false))
      (fun n i hi => by
        obtain ⟨g1, g2⟩ := spec_l01Same_of (spec_l01Same_eq (hx _ (get_mem hi)) (hy _ (get_mem (show i < ys.length by omega))))
        rw [L_spec_l01SameAll_l4_succ]; unfold T_spec_l01SameAll_l4; rw [ltN_t hi, okIx_t hi, ix1, addI1 (by omega), okIx_t (show i < ys.length by omega)]
        simp only [br_true, grd_true, gF, g1, g2]
        cases decide (xs.getD i 0 = ys.getD i 0) <;> rfl)
      (fun n => by rw [L_spec_l01SameAll_l4_succ]; unfold T_spec_l01SameAll_l4; rw [ltN_f (Nat.le_refl _)]; rfl) xs.length 0 big (by omega) (big_gt hl) with ⟨k1, k2⟩ | ⟨j, k1, k2, k3, k4⟩
    · obtain ⟨g1, g2, _⟩ := spec_l01SameAll_l4_of1 rfl k2
      rw [decide_eq_true ((zip_getD h).2 fun j hj => of_decide_eq_true (k1 j (Nat.zero_le _) hj))]
      show grd (spec_l01SameAll_l4_p xs.length ys.length xs ys (Int.ofNat 0)) (br (spec_l01SameAll_l4_w0 xs.length ys.length xs ys (Int.ofNat 0)) _ _) = _
      rw [g1, g2]; rfl
    · obtain ⟨g1, g2⟩ := spec_l01SameAll_l4_of0 rfl k4
      rw [decide_eq_false fun e => of_decide_eq_false k3 ((zip_getD h).1 e j k2)]
      show grd (spec_l01SameAll_l4_p xs.length ys.length xs ys (Int.ofNat 0)) (br (spec_l01SameAll_l4_w0 xs.length ys.length xs ys (Int.ofNat 0)) _ _) = _
      rw [g1, g2]; rfl
  · have e3 : neI (Int.ofNat xs.length) (Int.ofNat ys.length) = true := by simp [neI]; omega
    rw [e3, decide_eq_false (by rintro rfl; exact h rfl)]; rfl
theorem slices_EqualFunc_eq {xs ys : List Nat} (hx : ∀ x ∈ xs, canW .f32 x) (hy : ∀ x ∈ ys, canW .f32 x) (hl : xs.length < 281474976710656) : F_slices_EqualFunc_sf32_sf32_f32_f32_SameNumber xs.length xs ys.length ys = some (decide (xs = ys)) := by
  unfold F_slices_EqualFunc_sf32_sf32_f32_f32_SameNumber T_slices_EqualFunc_sf32_sf32_f32_f32_SameNumber
  by_cases h : ys.length = xs.length
  · have e3 : neI (Int.ofNat xs.length) (Int.ofNat ys.length) = false := by simp [neI, h]
    rw [e3, br_false]
    rcases scan (L := L_slices_EqualFunc_sf32_sf32_f32_f32_SameNumber_l4 ys.length xs.length (Int.ofNat xs.length) xs ys) (len := xs.length) (fun j => decide (xs.getD j 0 = ys.getD j 0)) (g := fun _ => ()) (e := (Int.ofNat xs.length, false))
      (fun n i hi => by
        obtain ⟨g1, g2⟩ := impl_SameNumber_of (impl_SameNumber_eq (hx _ (get_mem hi)) (hy _ (get_mem (show i < ys.length by omega))))
        rw [L_slices_EqualFunc_sf32_sf32_f32_f32_SameNumber_l4_succ]; unfold T_slices_EqualFunc_sf32_sf32_f32_f32_SameNumber_l4; rw [ltN_t hi, okIx_t hi, ix1, addI1 (by omega), okIx_t (show i < ys.length by omega)]
        simp only [br_true, grd_true, gF, g1, g2]
        cases decide (xs.getD i 0 = ys.getD i 0) <;> rfl)
      (fun n => by rw [L_slices_EqualFunc_sf32_sf32_f32_f32_SameNumber_l4_succ]; unfold T_slices_EqualFunc_sf32_sf32_f32_f32_SameNumber_l4; rw [ltN_f (Nat.le_refl _)]; rfl) xs.length 0 big (by omega) (big_gt hl) with ⟨k1, k2⟩ | ⟨j, k1, k2, k3, k4⟩
    · obtain ⟨g1, g2, _⟩ := slices_EqualFunc_sf32_sf32_f32_f32_SameNumber_l4_of1 rfl k2
      rw [decide_eq_true ((zip_getD h).2 fun j hj => of_decide_eq_true (k1 j (Nat.zero_le _) hj))]
      show grd (slices_EqualFunc_sf32_sf32_f32_f32_SameNumber_l4_p ys.length xs.length (Int.ofNat xs.length) xs ys (Int.ofNat 0)) (br (slices_EqualFunc_sf32_sf32_f32_f32_SameNumber_l4_w0 ys.length xs.length (Int.ofNat xs.length) xs ys (Int.ofNat 0)) _ _) = _
      rw [g1, g2]; rfl
    · obtain ⟨g1, g2⟩ := slices_EqualFunc_sf32_sf32_f32_f32_SameNumber_l4_of0 rfl k4
      rw [decide_eq_false fun e => of_decide_eq_false k3 ((zip_getD h).1 e j k2)]
      show grd (slices_EqualFunc_sf32_sf32_f32_f32_SameNumber_l4_p ys.length xs.length (Int.ofNat xs.length) xs ys (Int.ofNat 0)) (br (slices_EqualFunc_sf32_sf32_f32_f32_SameNumber_l4_w0 ys.length xs.length (Int.ofNat xs.length) xs ys (Int.ofNat 0)) _ _) = _
      rw [g1, g2]; rfl
  · have e3 : neI (Int.ofNat xs.length) (Int.ofNat ys.length) = true := by simp [neI]; omega
    rw [e3, decide_eq_false (by rintro rfl; exact h rfl)]; rfl
theorem impl_sameNumbers_eq {xs ys : List Nat} (hx : ∀ x ∈ xs, canW .f32 x) (hy : ∀ x ∈ ys, canW .f32 x) (hl : xs.length < 281474976710656) : F_impl_sameNumbers xs.length xs ys.length ys = some (decide (xs = ys)) := by
  obtain ⟨p1, q1⟩ := slices_EqualFunc_sf32_sf32_f32_f32_SameNumber_of (slices_EqualFunc_eq hx hy hl)
  unfold F_impl_sameNumbers T_impl_sameNumbers
  simp only [pF_all, p1, q1, grd_true]
theorem impl_SameRose_eq {xs ys us vs : List Nat} (hx : ∀ x ∈ xs, canW .f32 x) (hy : ∀ x ∈ ys, canW .f32 x) (hu : ∀ x ∈ us, canW .f32 x) (hv : ∀ x ∈ vs, canW .f32 x) (lx : xs.length < 281474976710656) (ly : ys.length < 281474976710656) :
    F_impl_SameRose xs.length xs ys.length ys us.length us vs.length vs = some (decide (xs = us) && decide (ys = vs)) := by
  obtain ⟨p1, q1⟩ := impl_sameNumbers_of (impl_sameNumbers_eq hx hu lx)
  obtain ⟨p2, q2⟩ := impl_sameNumbers_of (impl_sameNumbers_eq hy hv ly)
  unfold F_impl_SameRose T_impl_SameRose
  simp only [pF_all, p1, q1, p2, q2, grd_true]
  cases decide (xs = us) <;> rfl
theorem spec_SameRose_eq {xs ys us vs : List Nat} (hx : ∀ x ∈ xs, canW .f32 x) (hy : ∀ x ∈ ys, canW .f32 x) (hu : ∀ x ∈ us, canW .f32 x) (hv : ∀ x ∈ vs, canW .f32 x) (lx : xs.length < 281474976710656) (ly : ys.length < 281474976710656) :
    F_spec_SameRose xs.length xs ys.length ys us.length us vs.length vs = some (decide (xs = us) && decide (ys = vs)) := by
  obtain ⟨p1, q1⟩ := spec_l01SameAll_of (spec_l01SameAll_eq hx hu lx)
  obtain ⟨p2, q2⟩ := spec_l01SameAll_of (spec_l01SameAll_eq hy hv ly)
  unfold F_spec_SameRose T_spec_SameRose
  simp only [pF_all, p1, q1, p2, q2, grd_true]
  cases decide (xs = us) <;> rfl
theorem laws_szRose_gen {xs ys : List Nat} {left : Int} (hx : xs.length ≤ maxLen) (hy : ys.length ≤ maxLen) (h0 : 0 ≤ left) (h1 : left ≤ 1048576) : ∃ r, F_laws_szRose xs.length xs ys.length ys left = some r ∧ (0 ≤ r → xs.length + ys.length ≤ 1048576) ∧ r ≤ 1048576 := by
  have hm : maxLen = 9223372036854775807 := by decide
  rw [hm] at hx hy
  obtain ⟨r1, h2, k1⟩ := laws_szFloat32S_eq xs.length xs left
  obtain ⟨p1, q1⟩ := laws_szFloat32S_of h2
  obtain ⟨k1, k1'⟩ := k1 h0 h1 hx
  obtain ⟨r2, h3, k2⟩ := laws_szFloat32S_eq ys.length ys r1
  obtain ⟨p2, q2⟩ := laws_szFloat32S_of h3
  unfold F_laws_szRose T_laws_szRose
  simp only [pF_all, p1, q1, grd_true, p2, q2]
  by_cases c1 : r1 < 0
  · rw [ltI_t c1]
    exact ⟨_, rfl, fun h => by simp at h, by decide⟩
  · rw [ltI_f c1]
    obtain ⟨e1, e2⟩ := k1 (by omega)
    obtain ⟨k2, k2'⟩ := k2 (by omega) (by omega) hy
    by_cases c2 : r2 < 0
    · rw [ltI_t c2]
      exact ⟨_, rfl, fun h => by simp at h, by decide⟩
    · rw [ltI_f c2]
      obtain ⟨e3, e4⟩ := k2 (by omega)
      exact ⟨_, rfl, fun h => by omega, by omega⟩
theorem plain_FnExactSameRose {xs ys us vs : List Nat} (hx : ∀ x ∈ xs, canW .f32 x) (mx : xs.length ≤ maxLen) (hy : ∀ x ∈ ys, canW .f32 x) (my : ys.length ≤ maxLen)
    (hu : ∀ x ∈ us, canW .f32 x) (mu : us.length ≤ maxLen) (hv : ∀ x ∈ vs, canW .f32 x) (mv : vs.length ≤ maxLen) : F_laws_FnExactSameRose xs.length xs ys.length ys us.length us vs.length vs = some true := by
  obtain ⟨r1, h1, k1, _⟩ := laws_szRose_gen (left := 1048576) mx my (by decide) (by decide)
  obtain ⟨p1, q1⟩ := laws_szRose_of h1
  unfold F_laws_FnExactSameRose T_laws_FnExactSameRose
  simp only [pF_all, p1, q1, grd_true]
  by_cases c1 : r1 < 0
  · rw [ltI_t c1]; rfl
  · rw [ltI_f c1]
    have l1 := k1 (by omega)
    obtain ⟨r2, h2, k2, _⟩ := laws_szRose_gen (left := r1) mu mv (by omega) (by omega)
    obtain ⟨p2, q2⟩ := laws_szRose_of h2
    simp only [pF_all, p2, q2, grd_true, br_false]
    by_cases c2 : r2 < 0
    · rw [ltI_t c2]; rfl
    · rw [ltI_f c2]
      have l2 := k2 (by omega)
      obtain ⟨p3, a3, b3, c3, d3⟩ := laws_toRose_of (laws_toRose_eq (xs := xs) (ys := ys) (by omega) (by omega))
      obtain ⟨p4, a4, b4, c4, d4⟩ := laws_toRose_of (laws_toRose_eq (xs := us) (ys := vs) (by omega) (by omega))
      obtain ⟨p5, q5⟩ := impl_SameRose_of (impl_SameRose_eq hx hy hu hv (by omega) (by omega))
      obtain ⟨p6, q6⟩ := spec_SameRose_of (spec_SameRose_eq hx hy hu hv (by omega) (by omega))
      obtain ⟨p7, q7⟩ := laws_eqRose_of (laws_eqRose_refl (xs := xs) (ys := ys) (by omega) (by omega))
      obtain ⟨p8, q8⟩ := laws_eqRose_of (laws_eqRose_refl (xs := us) (ys := vs) (by omega) (by omega))
      simp only [p3, a3, b3, c3, d3, p4, a4, b4, c4, d4, pF_all, p5, q5, p6, q6, p7, q7, p8, q8, grd_true, br_false, bnot_true, beqB_self]
end Go.Rf
