/-
  Plain laws.
-/
import Derived.Test.YtohhkgieggfpeabCalmsOfP
set_option linter.unusedVariables false
set_option linter.unusedSimpArgs false
set_option maxRecDepth 100000
set_option maxHeartbeats 4000000
namespace Go.Rf
open Go
def finB (x : Nat) : Bool := fcmp .eql .f32 (fop .sub .f32 x x) 0
def leastB (x : Nat) : Bool := finB x && fcmp .geq .f32 x 0
theorem impl_IsFinite_eq (x : Nat) : F_impl_IsFinite x = some (finB x) := rfl
theorem spec_l01Finite_eq (x : Nat) : F_spec_l01Finite x = some (finB x) := rfl
theorem impl_isLeast_eq (x : Nat) : F_impl_isLeast x = some (leastB x) := by
  obtain ⟨h1, h2⟩ := impl_IsFinite_of (impl_IsFinite_eq x)
  unfold F_impl_isLeast T_impl_isLeast leastB
  rw [h1, h2]
  cases finB x <;> rfl
theorem spec_l02Least_eq (x : Nat) : F_spec_l02Least x = some (leastB x) := by
  obtain ⟨h1, h2⟩ := spec_l01Finite_of (spec_l01Finite_eq x)
  unfold F_spec_l02Least T_spec_l02Least leastB
  rw [h1, h2]
  cases finB x <;> rfl
theorem impl_areLeast_1_eq (x : Nat) : F_impl_areLeast_1 x = some (!leastB x) := by
  obtain ⟨h1, h2⟩ := impl_isLeast_of (impl_isLeast_eq x)
  unfold F_impl_areLeast_1 T_impl_areLeast_1
  rw [h1, h2]; rfl
theorem laws_sameFloat_refl (x : Nat) : F_laws_sameFloat x x = some true := by
  unfold F_laws_sameFloat T_laws_sameFloat
  simp only [neq_self]
  cases hn : nanB .f64 x with
  | true => rfl
  | false =>
    have he : fcmp .eql .f64 x x = true := by rw [(fcmp_num .f64 hn hn).1]; simp
    simp only [br_if, Bool.false_eq_true, if_false, he, beqB, BEq.rfl]
    split <;> rfl
theorem slices_IndexFunc_areLeast {xs : List Nat} (hl : xs.length < 281474976710656) : ∃ r : Int, F_slices_IndexFunc_sf32_f32_areLeast_1 xs.length xs = some r ∧ leI 0 r = !xs.all leastB := by
  unfold F_slices_IndexFunc_sf32_f32_areLeast_1 T_slices_IndexFunc_sf32_f32_areLeast_1
  rcases scan_all (L := L_slices_IndexFunc_sf32_f32_areLeast_1_l2 xs.length (Int.ofNat xs.length) xs) xs leastB (g := fun i => Int.ofNat i) (e := (Int.ofNat xs.length, false))
    (fun n i hi => by
      rw [L_slices_IndexFunc_sf32_f32_areLeast_1_l2_succ]; unfold T_slices_IndexFunc_sf32_f32_areLeast_1_l2; rw [ltN_t hi, okIx_t hi, ix1, addI1 (by omega)]
      simp only [gF]
      generalize xs.getD i 0 = x
      obtain ⟨h1, h2⟩ := impl_areLeast_1_of (impl_areLeast_1_eq x)
      simp only [br_if, grd_true, h1, h2]
      rcases Bool.eq_false_or_eq_true (leastB x) with h | h <;> simp [h])
    (fun n => by rw [L_slices_IndexFunc_sf32_f32_areLeast_1_l2_succ]; unfold T_slices_IndexFunc_sf32_f32_areLeast_1_l2; rw [ltN_f (Nat.le_refl _)]; rfl) hl with ⟨h1, h2⟩ | ⟨j, h2, h3, h4⟩
  · obtain ⟨g1, g2, _⟩ := slices_IndexFunc_sf32_f32_areLeast_1_l2_of1 rfl h2
    exact ⟨Int.negSucc 0, by rw [g1, g2]; rfl, by rw [h1]; rfl⟩
  · obtain ⟨g1, g2, g3⟩ := slices_IndexFunc_sf32_f32_areLeast_1_l2_of0 rfl h4
    exact ⟨Int.ofNat j, by rw [g1, g2, g3]; rfl, by rw [h3]; exact decide_eq_true (by simp)⟩
theorem slices_ContainsFunc_areLeast {xs : List Nat} (hl : xs.length < 281474976710656) : F_slices_ContainsFunc_sf32_f32_areLeast_1 xs.length xs = some (!xs.all leastB) := by
  obtain ⟨r, h1, h2⟩ := slices_IndexFunc_areLeast hl
  obtain ⟨g1, g2⟩ := slices_IndexFunc_sf32_f32_areLeast_1_of h1
  unfold F_slices_ContainsFunc_sf32_f32_areLeast_1 T_slices_ContainsFunc_sf32_f32_areLeast_1
  rw [pF_all, g1, g2, h2]; rfl
theorem impl_areLeast_eq {xs : List Nat} (hl : xs.length < 281474976710656) : F_impl_areLeast xs.length xs = some (xs.all leastB) := by
  obtain ⟨g1, g2⟩ := slices_ContainsFunc_sf32_f32_areLeast_1_of (slices_ContainsFunc_areLeast hl)
  unfold F_impl_areLeast T_impl_areLeast
  rw [pF_all, g1, g2]
  simp [grd_true, bnot]
theorem laws_toFloat32S_eq {xs : List Nat} (hl : xs.length ≤ 1099511627776) : F_laws_toFloat32S xs.length xs = some (xs.length, xs) := by
  have hf := folds (L := L_laws_toFloat32S_l3 xs.length xs.length xs) (len := xs.length) (fun i s => s.set i (xs.getD i 0)) (e := fun s => (Int.ofNat xs.length, false, s))
    (fun n i s hi => by rw [L_laws_toFloat32S_l3_succ]; unfold T_laws_toFloat32S_l3; rw [ltN_t hi, okIx_t hi, ix1, addI1 (by omega)]; rfl)
    (fun n s => by rw [L_laws_toFloat32S_l3_succ]; unfold T_laws_toFloat32S_l3; rw [ltN_f (Nat.le_refl _)]; rfl) xs.length 0 big (List.replicate xs.length 0) (by omega) (big_gt (by omega))
  rw [copy_fold xs _ _ _ (by omega) (by simp)] at hf
  simp only [List.take_zero, List.drop_zero, List.nil_append] at hf
  obtain ⟨g1, _, _, g2⟩ := laws_toFloat32S_l3_of0 rfl hf
  have e : rF (muN (toN (Int.ofNat xs.length)) 1) = List.replicate xs.length 0 := by simp [rF, muN, toN]
  have ho : okMk (Int.ofNat xs.length) (Int.ofNat xs.length) 4 = true := decide_eq_true ⟨rfl, by simp, by simp; omega, by decide⟩
  unfold F_laws_toFloat32S T_laws_toFloat32S
  rw [e, ho, toN_nat]
  show grd (laws_toFloat32S_l3_p xs.length xs.length xs (Int.ofNat 0) (List.replicate xs.length 0)) (some (_, laws_toFloat32S_l3_a0_2 xs.length xs.length xs (Int.ofNat 0) (List.replicate xs.length 0))) = _
  rw [g1, g2]; rfl
theorem laws_eqFloat32S_refl {xs : List Nat} (hl : xs.length < 281474976710656) : F_laws_eqFloat32S xs.length xs xs.length xs = some true := by
  have hn : neI (Int.ofNat xs.length) (Int.ofNat xs.length) = false := by simp [neI]
  unfold F_laws_eqFloat32S T_laws_eqFloat32S
  rw [hn]
  rcases scan_all (L := L_laws_eqFloat32S_l4 xs.length xs.length xs xs) xs (fun _ => true) (g := fun i => ()) (e := (Int.ofNat xs.length, false))
    (fun n i hi => by
      obtain ⟨h1, h2⟩ := laws_sameFloat_of (laws_sameFloat_refl (fcvV FloatKind.f32 FloatKind.f64 (gF xs i)))
      rw [L_laws_eqFloat32S_l4_succ]; unfold T_laws_eqFloat32S_l4; rw [ltN_t hi, okIx_t hi, ix1, addI1 (by omega), h1, h2]
      rfl)
    (fun n => by rw [L_laws_eqFloat32S_l4_succ]; unfold T_laws_eqFloat32S_l4; rw [ltN_f (Nat.le_refl _)]; rfl) hl with ⟨h1, h2⟩ | ⟨j, h2, h3, h4⟩
  · obtain ⟨g1, g2, _⟩ := laws_eqFloat32S_l4_of1 rfl h2
    rw [g1, g2]; rfl
  · simp at h3
theorem beqB_self (b : Bool) : beqB b b = true := by cases b <;> rfl
theorem neI_self (i : Int) : neI i i = false := by simp [neI]
theorem bnot_true : bnot true = false := rfl
theorem leN (a b : Nat) : leI (Int.ofNat a) (Int.ofNat b) = decide (a ≤ b) := by by_cases h : a ≤ b <;> simp [leI, h] <;> omega
theorem ltN (a b : Nat) : ltI (Int.ofNat a) (Int.ofNat b) = decide (a < b) := by by_cases h : a < b <;> simp [ltI, h] <;> omega
def windsB (xs : List Nat) : Bool := decide (1 ≤ xs.length) && (decide (xs.length ≤ 256) && xs.all leastB)
theorem impl_areWinds_eq {xs : List Nat} (hl : xs.length < 281474976710656) : F_impl_areWinds xs.length xs = some (windsB xs) := by
  obtain ⟨p1, q1⟩ := impl_areLeast_of (impl_areLeast_eq hl)
  have e1 : leI 1 (Int.ofNat xs.length) = decide (1 ≤ xs.length) := leN 1 _
  have e2 : leI (Int.ofNat xs.length) 256 = decide (xs.length ≤ 256) := leN _ 256
  unfold F_impl_areWinds T_impl_areWinds windsB
  simp only [pF_all, p1, q1, grd_true]
  rw [e1, e2]
  cases decide (1 ≤ xs.length) <;> cases decide (xs.length ≤ 256) <;> rfl
theorem spec_l04Winds_eq {xs : List Nat} (hl : xs.length < 281474976710656) : F_spec_l04Winds xs.length xs = some (windsB xs) := by
  have e1 : leI 1 (Int.ofNat xs.length) = decide (1 ≤ xs.length) := leN 1 _
  have e2 : leI (Int.ofNat xs.length) 256 = decide (xs.length ≤ 256) := leN _ 256
  unfold F_spec_l04Winds T_spec_l04Winds windsB
  rw [e1, e2]
  by_cases h : xs.length ≤ 256
  · rw [decide_eq_true h]
    rcases scan_all (L := L_spec_l04Winds_l2 xs.length xs) xs leastB (g := fun _ => ()) (e := (Int.ofNat xs.length, false))
      (fun n i hi => by
        rw [L_spec_l04Winds_l2_succ]; unfold T_spec_l04Winds_l2; rw [ltN_t hi, okIx_t hi, ix1, addI1 (by omega), e2, decide_eq_true h]
        obtain ⟨h1, h2⟩ := spec_l02Least_of (spec_l02Least_eq (xs.getD i 0))
        simp only [gF, br_true, grd_true, h1, h2]
        cases leastB (xs.getD i 0) <;> rfl)
      (fun n => by rw [L_spec_l04Winds_l2_succ]; unfold T_spec_l04Winds_l2; rw [ltN_f (Nat.le_refl _)]; rfl) hl with ⟨h1, h2⟩ | ⟨j, h2, h3, h4⟩
    · obtain ⟨g1, g2, _⟩ := spec_l04Winds_l2_of1 rfl h2
      rw [g1, g2, h1]
      cases decide (1 ≤ xs.length) <;> rfl
    · obtain ⟨g1, g2⟩ := spec_l04Winds_l2_of0 rfl h4
      rw [g1, g2, h3]
      cases decide (1 ≤ xs.length) <;> rfl
  · rw [decide_eq_false h]
    obtain ⟨n, hn⟩ : ∃ n, big = n + 1 := ⟨big - 1, by have := big_gt (k := 1) (by decide); omega⟩
    have h2 : L_spec_l04Winds_l2 xs.length xs big 0 = some (Sum.inr (Int.ofNat 0, false)) := by
      rw [hn, L_spec_l04Winds_l2_succ]; unfold T_spec_l04Winds_l2
      rw [show ltI 0 (Int.ofNat xs.length) = true from ltN_t (a := 0) (by omega), e2, decide_eq_false h]; rfl
    obtain ⟨g1, g2, _⟩ := spec_l04Winds_l2_of1 rfl h2
    rw [g1, g2]
    cases decide (1 ≤ xs.length) <;> rfl
theorem spec_l00Max_eq (a b : Int) : F_spec_l00Max a b = some (max a b) := by
  unfold F_spec_l00Max T_spec_l00Max
  by_cases h : b < a
  · rw [ltI_t h]
    have : max a b = a := by omega
    rw [this]; rfl
  · rw [ltI_f h]
    have : max a b = b := by omega
    rw [this]; rfl
abbrev CalmS := Int × Int × Int
def calmF (xs : List Nat) (level : Nat) (i : Nat) (s : CalmS) : CalmS :=
  if fcmp .lss .f32 (xs.getD i 0) level = true then (if s.2.2 = 0 then addI .i64 s.1 1 else s.1, max s.2.1 (addI .i64 s.2.2 1), addI .i64 s.2.2 1) else (s.1, s.2.1, 0)
def calmsL (xs : List Nat) (level : Nat) : CalmS := (List.range' 0 xs.length).foldl (fun s j => calmF xs level j s) (0, 0, 0)
theorem maI_max (a b : Int) : maI a b = max a b := by
  unfold maI
  by_cases h : b > a
  · rw [if_pos h]; omega
  · rw [if_neg h]; omega
def calmsR (xs : List Nat) (level : Nat) : Int × Int × Bool := if windsB xs = true then ((calmsL xs level).1, (calmsL xs level).2.1, true) else (0, 0, false)
theorem impl_CalmsOf_eq {xs : List Nat} (level : Nat) (hl : xs.length < 281474976710656) : F_impl_CalmsOf xs.length xs level = some (calmsR xs level) := by
  obtain ⟨p1, q1⟩ := impl_areWinds_of (impl_areWinds_eq hl)
  have hf := folds (L := fun n i (s : CalmS) => L_impl_CalmsOf_l5 level xs.length (Int.ofNat xs.length) xs n s.1 s.2.1 s.2.2 i) (len := xs.length) (calmF xs level) (e := fun s => (s.1, s.2.1, s.2.2, Int.ofNat xs.length, false))
    (fun n i s hi => by
      show L_impl_CalmsOf_l5 _ _ _ _ _ _ _ _ _ = _
      rw [L_impl_CalmsOf_l5_succ]; unfold T_impl_CalmsOf_l5; rw [ltN_t hi, okIx_t hi, ix1, addI1 (by omega)]
      simp only [gF, br_true, grd_true, maI_max, calmF, br_if, bnot, eqI]
      cases fcmp .lss .f32 (xs.getD i 0) level
      · rfl
      · by_cases h0 : s.2.2 = 0 <;> simp [h0])
    (fun n s => by show L_impl_CalmsOf_l5 _ _ _ _ _ _ _ _ _ = _; rw [L_impl_CalmsOf_l5_succ]; unfold T_impl_CalmsOf_l5; rw [ltN_f (Nat.le_refl _)]; rfl) xs.length 0 big (0, 0, 0) (by omega) (big_gt (by omega))
  obtain ⟨g1, g2, g3, _⟩ := impl_CalmsOf_l5_of0 rfl hf
  unfold F_impl_CalmsOf T_impl_CalmsOf calmsR
  simp only [pF_all, p1, q1, grd_true]
  cases windsB xs
  · rfl
  · show grd (impl_CalmsOf_l5_p level xs.length (Int.ofNat xs.length) xs 0 0 0 (Int.ofNat 0)) (some (impl_CalmsOf_l5_a0_0 level xs.length (Int.ofNat xs.length) xs 0 0 0 (Int.ofNat 0), impl_CalmsOf_l5_a0_1 level xs.length (Int.ofNat xs.length) xs 0 0 0 (Int.ofNat 0), true)) = _
    rw [g1, g2, g3]; rfl
theorem spec_CalmsOf_eq {xs : List Nat} (level : Nat) (hl : xs.length < 281474976710656) : F_spec_CalmsOf xs.length xs level = some (calmsR xs level) := by
  obtain ⟨p1, q1⟩ := spec_l04Winds_of (spec_l04Winds_eq hl)
  have hf := folds (L := fun n i (s : CalmS) => L_spec_CalmsOf_l7 xs.length level xs n s.1 s.2.2 s.2.1 i) (len := xs.length) (calmF xs level) (e := fun s => (s.1, s.2.2, s.2.1, Int.ofNat xs.length, false))
    (fun n i s hi => by
      show L_spec_CalmsOf_l7 _ _ _ _ _ _ _ _ = _
      obtain ⟨p, q⟩ := spec_l00Max_of (spec_l00Max_eq s.2.1 (addI .i64 s.2.2 1))
      rw [L_spec_CalmsOf_l7_succ]; unfold T_spec_CalmsOf_l7; rw [ltN_t hi, okIx_t hi, ix1, addI1 (by omega)]
      simp only [gF, br_true, grd_true, calmF, br_if, bnot, eqI, p, q]
      cases fcmp .lss .f32 (xs.getD i 0) level
      · rfl
      · by_cases h0 : s.2.2 = 0 <;> simp [h0])
    (fun n s => by show L_spec_CalmsOf_l7 _ _ _ _ _ _ _ _ = _; rw [L_spec_CalmsOf_l7_succ]; unfold T_spec_CalmsOf_l7; rw [ltN_f (Nat.le_refl _)]; rfl) xs.length 0 big (0, 0, 0) (by omega) (big_gt (by omega))
  obtain ⟨g1, g2, _, g3, _⟩ := spec_CalmsOf_l7_of0 rfl hf
  unfold F_spec_CalmsOf T_spec_CalmsOf calmsR
  simp only [pF_all, p1, q1, grd_true]
  cases windsB xs
  · rfl
  · show grd (spec_CalmsOf_l7_p xs.length level xs 0 0 0 (Int.ofNat 0)) (some (spec_CalmsOf_l7_a0_0 xs.length level xs 0 0 0 (Int.ofNat 0), spec_CalmsOf_l7_a0_2 xs.length level xs 0 0 0 (Int.ofNat 0), true)) = _
    rw [g1, g2, g3]; rfl
theorem plain_FnExactCalmsOf {xs : List Nat} {level : Nat} (hx : ∀ x ∈ xs, canW .f32 x) (mx : xs.length ≤ maxLen) (hw : canW .f32 level) : F_laws_FnExactCalmsOf xs.length xs level = some true := by
  have e0 : ltI 1048576 (Int.ofNat xs.length) = decide (1048576 < xs.length) := ltN 1048576 _
  unfold F_laws_FnExactCalmsOf T_laws_FnExactCalmsOf
  rw [e0]
  by_cases h : 1048576 < xs.length
  · rw [decide_eq_true h]; rfl
  · rw [decide_eq_false h]
    obtain ⟨p0, q0, r0⟩ := laws_toFloat32S_of (laws_toFloat32S_eq (xs := xs) (by omega))
    obtain ⟨p1, q1, r1, s1⟩ := spec_CalmsOf_of (spec_CalmsOf_eq (xs := xs) level (by omega))
    obtain ⟨p2, q2, r2, s2⟩ := impl_CalmsOf_of (impl_CalmsOf_eq (xs := xs) level (by omega))
    obtain ⟨p3, q3⟩ := laws_eqFloat32S_of (laws_eqFloat32S_refl (xs := xs) (by omega))
    simp only [pF_all, p0, q0, r0, p1, q1, r1, s1, p2, q2, r2, s2, p3, q3, grd_true, br_false, bnot_true, beqB_self, neI_self]
end Go.Rf
