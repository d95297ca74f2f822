/-
  Plain laws.
-/
import Derived.Test.YtdmbbllcgpicbaaStrongestSectorP
set_option linter.unusedVariables false
set_option linter.unusedSimpArgs false
set_option maxRecDepth 100000
set_option maxHeartbeats 4000000
namespace Go.Rf
open Go
def finB (x : Nat) : Bool := fcmp .eql .f32 (fop .sub .f32 x x) 0
def leastB (x : Nat) : Bool := finB x && fcmp .geq .f32 x 0
theorem floatBits_nan {op : BinOp} {k : FloatKind} {x y : Nat} (h : nanB k x = true ∨ nanB k y = true) : floatBits op k x y = none := by
  unfold floatBits
  rcases h with h | h
  · obtain ⟨s, f, e⟩ := nan_form h
    cases op <;> simp only [Ieee.Format.add, Ieee.Format.sub, Ieee.Format.mul, Ieee.Format.div, e, sum_nan_left, product_nan_left, quotient_nan_left, Option.map_none]
  · obtain ⟨s, f, e⟩ := nan_form h
    cases op <;> simp only [Ieee.Format.add, Ieee.Format.sub, Ieee.Format.mul, Ieee.Format.div, e, sum_nan_right, product_nan_right, quotient_nan_right, Option.map_none, Ieee.Datum.opposite]
theorem fop_nan {op : BinOp} {k : FloatKind} {x y : Nat} (h : nanB k x = true ∨ nanB k y = true) : fop op k x y = qn k := by
  unfold fop
  rw [floatBits_nan h]; rfl
theorem fin_num {x : Nat} (h : finB x = true) : nanB .f32 x = false := by
  cases hn : nanB .f32 x with
  | false => rfl
  | true =>
    unfold finB at h
    rw [fop_nan (.inl hn), (fcmp_nan .f32 (.inl (nanB_qn .f32))).1] at h
    cases h
theorem impl_IsFinite_eq (x : Nat) : F_impl_IsFinite x = some (finB x) := rfl
theorem spec_l01Finite_eq (x : Nat) : F_spec_l01Finite x = some (finB x) := rfl
theorem impl_isLeast_eq (x : Nat) : F_impl_isLeast x = some (leastB x) := by
  obtain ⟨h1, h2⟩ := impl_IsFinite_of (impl_IsFinite_eq x)
  unfold F_impl_isLeast T_impl_isLeast leastB
  rw [h1, h2]
  cases finB x <;> rfl
theorem spec_l02Least_eq (x : Nat) : F_spec_l02Least x = some (leastB x) := by
  obtain ⟨h1, h2⟩ := spec_l01Finite_of (spec_l01Finite_eq x)
  unfold F_spec_l02Least T_spec_l02Least leastB
  rw [h1, h2]
  cases finB x <;> rfl
theorem impl_areLeast_1_eq (x : Nat) : F_impl_areLeast_1 x = some (!leastB x) := by
  obtain ⟨h1, h2⟩ := impl_isLeast_of (impl_isLeast_eq x)
  unfold F_impl_areLeast_1 T_impl_areLeast_1
  rw [h1, h2]; rfl
def checkV (x : Nat) : Nat := if finB x then x else 0
theorem impl_checked_eq (x : Nat) : F_impl_checked x = some (checkV x, finB x) := by
  obtain ⟨h1, h2⟩ := impl_IsFinite_of (impl_IsFinite_eq x)
  unfold F_impl_checked T_impl_checked checkV
  rw [h1, h2]
  cases finB x <;> rfl
theorem laws_sameFloat_refl (x : Nat) : F_laws_sameFloat x x = some true := by
  unfold F_laws_sameFloat T_laws_sameFloat
  simp only [neq_self]
  cases hn : nanB .f64 x with
  | true => rfl
  | false =>
    have he : fcmp .eql .f64 x x = true := by rw [(fcmp_num .f64 hn hn).1]; simp
    simp only [br_if, Bool.false_eq_true, if_false, he, beqB, BEq.rfl]
    split <;> rfl
theorem slices_IndexFunc_areLeast {xs : List Nat} (hl : xs.length < 281474976710656) : ∃ r : Int, F_slices_IndexFunc_sf32_f32_areLeast_1 xs.length xs = some r ∧ leI 0 r = !xs.all leastB := by
  unfold F_slices_IndexFunc_sf32_f32_areLeast_1 T_slices_IndexFunc_sf32_f32_areLeast_1
  rcases scan_all (L := L_slices_IndexFunc_sf32_f32_areLeast_1_l2 xs.length (Int.ofNat xs.length) xs) xs leastB (g := fun i => Int.ofNat i) (e := (Int.ofNat xs.length, false))
    (fun n i hi => by
      rw [L_slices_IndexFunc_sf32_f32_areLeast_1_l2_succ]; unfold T_slices_IndexFunc_sf32_f32_areLeast_1_l2; rw [ltN_t hi, okIx_t hi, ix1, addI1 (by omega)]
      simp only [gF]
      generalize xs.getD i 0 = x
      obtain ⟨h1, h2⟩ := impl_areLeast_1_of (impl_areLeast_1_eq x)
      simp only [br_if, grd_true, h1, h2]
      rcases Bool.eq_false_or_eq_true (leastB x) with h | h <;> simp [h])
    (fun n => by rw [L_slices_IndexFunc_sf32_f32_areLeast_1_l2_succ]; unfold T_slices_IndexFunc_sf32_f32_areLeast_1_l2; rw [ltN_f (Nat.le_refl _)]; rfl) hl with ⟨h1, h2⟩ | ⟨j, h2, h3, h4⟩
  · obtain ⟨g1, g2, _⟩ := slices_IndexFunc_sf32_f32_areLeast_1_l2_of1 rfl h2
    exact ⟨Int.negSucc 0, by rw [g1, g2]; rfl, by rw [h1]; rfl⟩
  · obtain ⟨g1, g2, g3⟩ := slices_IndexFunc_sf32_f32_areLeast_1_l2_of0 rfl h4
    exact ⟨Int.ofNat j, by rw [g1, g2, g3]; rfl, by rw [h3]; exact decide_eq_true (by simp)⟩
theorem slices_ContainsFunc_areLeast {xs : List Nat} (hl : xs.length < 281474976710656) : F_slices_ContainsFunc_sf32_f32_areLeast_1 xs.length xs = some (!xs.all leastB) := by
  obtain ⟨r, h1, h2⟩ := slices_IndexFunc_areLeast hl
  obtain ⟨g1, g2⟩ := slices_IndexFunc_sf32_f32_areLeast_1_of h1
  unfold F_slices_ContainsFunc_sf32_f32_areLeast_1 T_slices_ContainsFunc_sf32_f32_areLeast_1
  rw [pF_all, g1, g2, h2]; rfl
theorem impl_areLeast_eq {xs : List Nat} (hl : xs.length < 281474976710656) : F_impl_areLeast xs.length xs = some (xs.all leastB) := by
  obtain ⟨g1, g2⟩ := slices_ContainsFunc_sf32_f32_areLeast_1_of (slices_ContainsFunc_areLeast hl)
  unfold F_impl_areLeast T_impl_areLeast
  rw [pF_all, g1, g2]
  simp [grd_true, bnot]
/-- Two numbers. -/
theorem impl_areLeast_two (x y : Nat) : F_impl_areLeast 2 (pF [x, y] 0 (muN 2 1)) = some (leastB x && leastB y) := by
  have := impl_areLeast_eq (xs := [x, y]) (by simp)
  simpa [pF, muN] using this
theorem laws_szFloat32S_eq (n : Nat) (xs : List Nat) (left : Int) : ∃ r, F_laws_szFloat32S n xs left = some r ∧ (0 ≤ left → left ≤ 1048576 → n ≤ 9223372036854775807 → (0 ≤ r → r = left - n ∧ (n : Int) ≤ left) ∧ r ≤ 1048576) := by
  unfold F_laws_szFloat32S T_laws_szFloat32S
  by_cases h : subI .i64 left (Int.ofNat n) < 0
  · rw [ltI_t h]
    exact ⟨_, rfl, fun _ _ _ => ⟨fun q => by simp at q, by decide⟩⟩
  · rw [ltI_f h]
    refine ⟨_, rfl, fun h1 h2 h3 => ?_⟩
    have e : subI .i64 left (Int.ofNat n) = left - n := wrap64 (by simp; omega) (by simp; omega)
    rw [e] at h ⊢
    exact ⟨fun _ => ⟨rfl, by omega⟩, by omega⟩
theorem laws_toFloat32S_eq {xs : List Nat} (hl : xs.length ≤ 1099511627776) : F_laws_toFloat32S xs.length xs = some (xs.length, xs) := by
  have hf := folds (L := L_laws_toFloat32S_l3 xs.length xs.length xs) (len := xs.length) (fun i s => s.set i (xs.getD i 0)) (e := fun s => (Int.ofNat xs.length, false, s))
    (fun n i s hi => by rw [L_laws_toFloat32S_l3_succ]; unfold T_laws_toFloat32S_l3; rw [ltN_t hi, okIx_t hi, ix1, addI1 (by omega)]; rfl)
    (fun n s => by rw [L_laws_toFloat32S_l3_succ]; unfold T_laws_toFloat32S_l3; rw [ltN_f (Nat.le_refl _)]; rfl) xs.length 0 big (List.replicate xs.length 0) (by omega) (big_gt (by omega))
  rw [copy_fold xs _ _ _ (by omega) (by simp)] at hf
  simp only [List.take_zero, List.drop_zero, List.nil_append] at hf
  obtain ⟨g1, _, _, g2⟩ := laws_toFloat32S_l3_of0 rfl hf
  have e : rF (muN (toN (Int.ofNat xs.length)) 1) = List.replicate xs.length 0 := by simp [rF, muN, toN]
  have ho : okMk (Int.ofNat xs.length) (Int.ofNat xs.length) 4 = true := decide_eq_true ⟨rfl, by simp, by simp; omega, by decide⟩
  unfold F_laws_toFloat32S T_laws_toFloat32S
  rw [e, ho, toN_nat]
  show grd (laws_toFloat32S_l3_p xs.length xs.length xs (Int.ofNat 0) (List.replicate xs.length 0)) (some (_, laws_toFloat32S_l3_a0_2 xs.length xs.length xs (Int.ofNat 0) (List.replicate xs.length 0))) = _
  rw [g1, g2]; rfl
theorem laws_eqFloat32S_refl {xs : List Nat} (hl : xs.length < 281474976710656) : F_laws_eqFloat32S xs.length xs xs.length xs = some true := by
  have hn : neI (Int.ofNat xs.length) (Int.ofNat xs.length) = false := by simp [neI]
  unfold F_laws_eqFloat32S T_laws_eqFloat32S
  rw [hn]
  rcases scan_all (L := L_laws_eqFloat32S_l4 xs.length xs.length xs xs) xs (fun _ => true) (g := fun i => ()) (e := (Int.ofNat xs.length, false))
    (fun n i hi => by
      obtain ⟨h1, h2⟩ := laws_sameFloat_of (laws_sameFloat_refl (fcvV FloatKind.f32 FloatKind.f64 (gF xs i)))
      rw [L_laws_eqFloat32S_l4_succ]; unfold T_laws_eqFloat32S_l4; rw [ltN_t hi, okIx_t hi, ix1, addI1 (by omega), h1, h2]
      rfl)
    (fun n => by rw [L_laws_eqFloat32S_l4_succ]; unfold T_laws_eqFloat32S_l4; rw [ltN_f (Nat.le_refl _)]; rfl) hl with ⟨h1, h2⟩ | ⟨j, h2, h3, h4⟩
  · obtain ⟨g1, g2, _⟩ := laws_eqFloat32S_l4_of1 rfl h2
    rw [g1, g2]; rfl
  · simp at h3
def airPower (d s : Nat) : Nat := fop .mul .f32 (fop .mul .f32 (fop .mul .f32 (fop .mul .f32 1056964608 d) s) s) s
def airPowerR (d s : Nat) : Nat × Bool := if (leastB d && leastB s) = true then (checkV (airPower d s), finB (airPower d s)) else (0, false)
theorem impl_AirPower_eq (d s : Nat) : F_impl_AirPower d s = some (airPowerR d s) := by
  obtain ⟨p1, q1⟩ := impl_areLeast_of (impl_areLeast_two d s)
  obtain ⟨p4, q4, q5⟩ := impl_checked_of (impl_checked_eq (airPower d s))
  unfold F_impl_AirPower T_impl_AirPower airPowerR
  rw [half_eq]
  unfold airPower at p4 q4 q5 ⊢
  simp only [p1, p4, q1, q4, q5, grd_true, bnot]
  cases leastB d <;> cases leastB s <;> rfl
theorem laws_toRose_eq {xs ys : List Nat} (hx : xs.length ≤ 1099511627776) (hy : ys.length ≤ 1099511627776) : F_laws_toRose xs.length xs ys.length ys = some (xs.length, ys.length, xs, ys) := by
  obtain ⟨p1, q1, r1⟩ := laws_toFloat32S_of (laws_toFloat32S_eq hx)
  obtain ⟨p2, q2, r2⟩ := laws_toFloat32S_of (laws_toFloat32S_eq hy)
  unfold F_laws_toRose T_laws_toRose
  simp only [pF_all, p1, q1, r1, p2, q2, r2, grd_true]
theorem laws_eqRose_refl {xs ys : List Nat} (hx : xs.length < 281474976710656) (hy : ys.length < 281474976710656) : F_laws_eqRose xs.length xs ys.length ys xs.length xs ys.length ys = some true := by
  obtain ⟨p1, q1⟩ := laws_eqFloat32S_of (laws_eqFloat32S_refl hx)
  obtain ⟨p2, q2⟩ := laws_eqFloat32S_of (laws_eqFloat32S_refl hy)
  unfold F_laws_eqRose T_laws_eqRose
  simp only [pF_all, p1, q1, p2, q2, grd_true]
  rfl
def validRoseB (xs ys : List Nat) : Bool := decide (1 ≤ xs.length) && (decide (xs.length ≤ 16) && (decide (ys.length = xs.length) && (xs.all leastB && ys.all leastB)))
theorem impl_ValidRose_eq {xs ys : List Nat} (hx : xs.length < 281474976710656) (hy : ys.length < 281474976710656) : F_impl_ValidRose xs.length xs ys.length ys = some (validRoseB xs ys) := by
  obtain ⟨p1, q1⟩ := impl_areLeast_of (impl_areLeast_eq hx)
  obtain ⟨p2, q2⟩ := impl_areLeast_of (impl_areLeast_eq hy)
  have e1 : leI 1 (Int.ofNat xs.length) = decide (1 ≤ xs.length) := by by_cases h : 1 ≤ xs.length <;> simp [leI, h] <;> omega
  have e2 : leI (Int.ofNat xs.length) 16 = decide (xs.length ≤ 16) := by by_cases h : xs.length ≤ 16 <;> simp [leI, h] <;> omega
  have e3 : eqI (Int.ofNat ys.length) (Int.ofNat xs.length) = decide (ys.length = xs.length) := by by_cases h : ys.length = xs.length <;> simp [eqI, h] <;> omega
  unfold F_impl_ValidRose T_impl_ValidRose validRoseB
  simp only [pF_all, p1, q1, p2, q2, grd_true]
  rw [e1, e2, e3]
  cases decide (1 ≤ xs.length) <;> cases decide (xs.length ≤ 16) <;> cases decide (ys.length = xs.length) <;> cases xs.all leastB <;> rfl
theorem all_zip {p : Nat → Bool} {xs ys : List Nat} (h : ys.length = xs.length) : (xs.all p && ys.all p) = true ↔ ∀ j, j < xs.length → (p (xs.getD j 0) && p (ys.getD j 0)) = true := by
  rw [Bool.and_eq_true, List.all_eq_true, List.all_eq_true]
  constructor
  · rintro ⟨h1, h2⟩ j hj
    rw [Bool.and_eq_true]
    refine ⟨h1 _ ?_, h2 _ ?_⟩
    · rw [List.getD_eq_getElem?_getD, List.getElem?_eq_getElem hj]; exact List.getElem_mem _
    · rw [List.getD_eq_getElem?_getD, List.getElem?_eq_getElem (by omega)]; exact List.getElem_mem _
  · intro hh
    refine ⟨fun x hx => ?_, fun y hy => ?_⟩
    · obtain ⟨j, hj, rfl⟩ := List.getElem_of_mem hx
      have := (Bool.and_eq_true _ _ ▸ hh j hj).1
      simpa [List.getD_eq_getElem?_getD, hj] using this
    · obtain ⟨j, hj, rfl⟩ := List.getElem_of_mem hy
      have := (Bool.and_eq_true _ _ ▸ hh j (by omega)).2
      simpa [List.getD_eq_getElem?_getD, hj] using this
theorem spec_l04Rose_eq {xs ys : List Nat} (hx : xs.length < 281474976710656) : F_spec_l04Rose xs.length xs ys.length ys = some (validRoseB xs ys) := by
  unfold F_spec_l04Rose T_spec_l04Rose validRoseB
  by_cases h1 : 1 ≤ xs.length
  · have e1 : ltI (Int.ofNat xs.length) 1 = false := ltI_f (by simp; omega)
    rw [e1, decide_eq_true h1]
    by_cases h2 : xs.length ≤ 16
    · have e2 : ltI 16 (Int.ofNat xs.length) = false := ltI_f (by simp; omega)
      rw [e2, decide_eq_true h2]
      by_cases h3 : ys.length = xs.length
      · have e3 : neI (Int.ofNat ys.length) (Int.ofNat xs.length) = false := by simp [neI, h3]
        rw [e3, decide_eq_true h3]
        simp only [br_false, Bool.true_and]
        rcases scan (L := L_spec_l04Rose_l5 (Int.ofNat xs.length) xs ys xs.length ys.length) (len := xs.length) (fun j => leastB (xs.getD j 0) && leastB (ys.getD j 0)) (g := fun _ => ()) (e := (Int.ofNat xs.length, false))
          (fun n i hi => by
            obtain ⟨g1, g2⟩ := spec_l02Least_of (spec_l02Least_eq (xs.getD i 0))
            obtain ⟨g3, g4⟩ := spec_l02Least_of (spec_l02Least_eq (ys.getD i 0))
            rw [L_spec_l04Rose_l5_succ]; unfold T_spec_l04Rose_l5; rw [ltN_t hi, okIx_t hi, ix1, addI1 (by omega), okIx_t (show i < ys.length by omega)]
            simp only [br_true, grd_true, gF, g1, g2, g3, g4]
            cases leastB (xs.getD i 0) <;> cases leastB (ys.getD i 0) <;> rfl)
          (fun n => by rw [L_spec_l04Rose_l5_succ]; unfold T_spec_l04Rose_l5; rw [ltN_f (Nat.le_refl _)]; rfl) xs.length 0 big (by omega) (big_gt hx) with ⟨k1, k2⟩ | ⟨j, k1, k2, k3, k4⟩
        · obtain ⟨g1, g2, _⟩ := spec_l04Rose_l5_of1 rfl k2
          have : (xs.all leastB && ys.all leastB) = true := (all_zip h3).2 fun j hj => k1 j (Nat.zero_le _) hj
          rw [this]
          show grd (spec_l04Rose_l5_p (Int.ofNat xs.length) xs ys xs.length ys.length (Int.ofNat 0)) (br (spec_l04Rose_l5_w0 (Int.ofNat xs.length) xs ys xs.length ys.length (Int.ofNat 0)) _ _) = _
          rw [g1, g2]; rfl
        · obtain ⟨g1, g2⟩ := spec_l04Rose_l5_of0 rfl k4
          have : (xs.all leastB && ys.all leastB) = false := by
            cases hh : (xs.all leastB && ys.all leastB) with
            | false => rfl
            | true => have := (all_zip h3).1 hh j k2; rw [k3] at this; cases this
          rw [this]
          show grd (spec_l04Rose_l5_p (Int.ofNat xs.length) xs ys xs.length ys.length (Int.ofNat 0)) (br (spec_l04Rose_l5_w0 (Int.ofNat xs.length) xs ys xs.length ys.length (Int.ofNat 0)) _ _) = _
          rw [g1, g2]; rfl
      · have e3 : neI (Int.ofNat ys.length) (Int.ofNat xs.length) = true := by simp [neI]; omega
        rw [e3, decide_eq_false h3]; rfl
    · have e2 : ltI 16 (Int.ofNat xs.length) = true := ltI_t (by simp; omega)
      rw [e2, decide_eq_false h2]; rfl
  · have e1 : ltI (Int.ofNat xs.length) 1 = true := ltI_t (by simp; omega)
    rw [e1, decide_eq_false h1]; rfl
theorem beqB_self (b : Bool) : beqB b b = true := by cases b <;> rfl
theorem neI_self (i : Int) : neI i i = false := by simp [neI]
theorem bnot_true : bnot true = false := rfl
theorem get_mem {xs : List Nat} {i : Nat} (h : i < xs.length) : xs.getD i 0 ∈ xs := by
  rw [List.getD_eq_getElem?_getD, List.getElem?_eq_getElem h]; exact List.getElem_mem _
theorem laws_szRose_gen {xs ys : List Nat} {left : Int} (hx : xs.length ≤ maxLen) (hy : ys.length ≤ maxLen) (h0 : 0 ≤ left) (h1 : left ≤ 1048576) : ∃ r, F_laws_szRose xs.length xs ys.length ys left = some r ∧ (0 ≤ r → xs.length + ys.length ≤ 1048576) ∧ r ≤ 1048576 := by
  have hm : maxLen = 9223372036854775807 := by decide
  rw [hm] at hx hy
  obtain ⟨r1, h2, k1⟩ := laws_szFloat32S_eq xs.length xs left
  obtain ⟨p1, q1⟩ := laws_szFloat32S_of h2
  obtain ⟨k1, k1'⟩ := k1 h0 h1 hx
  obtain ⟨r2, h3, k2⟩ := laws_szFloat32S_eq ys.length ys r1
  obtain ⟨p2, q2⟩ := laws_szFloat32S_of h3
  unfold F_laws_szRose T_laws_szRose
  simp only [pF_all, p1, q1, grd_true, p2, q2]
  by_cases c1 : r1 < 0
  · rw [ltI_t c1]
    exact ⟨_, rfl, fun h => by simp at h, by decide⟩
  · rw [ltI_f c1]
    obtain ⟨e1, e2⟩ := k1 (by omega)
    obtain ⟨k2, k2'⟩ := k2 (by omega) (by omega) hy
    by_cases c2 : r2 < 0
    · rw [ltI_t c2]
      exact ⟨_, rfl, fun h => by simp at h, by decide⟩
    · rw [ltI_f c2]
      obtain ⟨e3, e4⟩ := k2 (by omega)
      exact ⟨_, rfl, fun h => by omega, by omega⟩
theorem finB_eq (x : Nat) : finB x = finW .f32 x := by
  cases hn : nanB .f32 x with
  | true =>
    have h1 : finB x = false := by
      cases h : finB x with
      | false => rfl
      | true => rw [fin_num h] at hn; cases hn
    have h2 : finW .f32 x = false := by
      cases h : finW .f32 x with
      | false => rfl
      | true => rw [finW_nan h] at hn; cases hn
    rw [h1, h2]
  | false =>
    cases hf : finW .f32 x with
    | true =>
      unfold finB
      rw [sub_word hf hf]
      have h0 : (vl .f32 x - vl .f32 x).natAbs = 0 := by simp
      rw [h0, rnd_zero]
      generalize sgn0 _ _ _ = s
      cases s <;> decide +kernel
    | false =>
      have hr := inf_read hn hf
      unfold finB
      have e : fop .sub .f32 x x = qn .f32 := by
        unfold fop floatBits Ieee.Format.sub
        simp only [hr]
        cases nn .f32 x <;> simp [Ieee.Datum.opposite, Ieee.Datum.sum]
      rw [e]
      decide +kernel
theorem not_finW_nan {k : FloatKind} {x : Nat} (h : nanB k x = true) : finW k x = false := by
  cases hf : finW k x with
  | false => rfl
  | true => rw [finW_nan hf] at h; cases h
theorem write_inf (k : FloatKind) (s : Bool) : finW k (k.format.write (.infinity s)) = false := by
  unfold finW
  refine decide_eq_false ?_
  show ¬ rg k.format (k.format.word s k.format.infRung) < _
  rw [rg_word k s (Nat.le_refl _)]
  omega
theorem qn_fin (k : FloatKind) : finW k (qn k) = false := not_finW_nan (nanB_qn k)
/-- A finite product, sum, difference is one of finite numbers. -/
theorem mul_fin {k : FloatKind} {x y : Nat} (h : finW k (fop .mul k x y) = true) : finW k x = true ∧ finW k y = true := by
  cases nx : nanB k x with
  | true => rw [fop_nan (.inl nx), qn_fin] at h; cases h
  | false =>
    cases ny : nanB k y with
    | true => rw [fop_nan (.inr ny), qn_fin] at h; cases h
    | false =>
      cases fx : finW k x with
      | false =>
        exfalso
        have rx := inf_read nx fx
        unfold fop floatBits Ieee.Format.mul at h
        simp only [rx] at h
        cases hy : k.format.read y with
        | nan s f => rw [hy] at h; simp only [Ieee.Datum.product, Option.map_none, Option.getD_none] at h; rw [qn_fin] at h; cases h
        | infinity s => rw [hy] at h; simp only [Ieee.Datum.product, Option.map_some, Option.getD_some] at h; rw [write_inf] at h; cases h
        | number s m e =>
          rw [hy] at h; simp only [Ieee.Datum.product] at h
          split at h
          · simp only [Option.map_none, Option.getD_none] at h; rw [qn_fin] at h; cases h
          · simp only [Option.map_some, Option.getD_some] at h; rw [write_inf] at h; cases h
      | true =>
        cases fy : finW k y with
        | true => exact ⟨rfl, rfl⟩
        | false =>
          exfalso
          have ry := inf_read ny fy
          obtain ⟨m, a, rx, _⟩ := fin_read fx
          unfold fop floatBits Ieee.Format.mul at h
          simp only [rx, ry, Ieee.Datum.product] at h
          split at h
          · simp only [Option.map_none, Option.getD_none] at h; rw [qn_fin] at h; cases h
          · simp only [Option.map_some, Option.getD_some] at h; rw [write_inf] at h; cases h
def walkS {σ α β : Type} (p : Nat → σ → Bool) (f : Nat → σ → σ) (g : Nat → σ → α) (e : σ → β) : Nat → Nat → σ → α ⊕ β
  | 0, _, s => .inr (e s)
  | k + 1, i, s => if p i s = true then walkS p f g e k (i + 1) (f i s) else .inl (g i s)
theorem walks {σ α β : Type} {L : Nat → Int → σ → Option (α ⊕ β)} {len : Nat} (p : Nat → σ → Bool) (f : Nat → σ → σ) {g : Nat → σ → α} {e : σ → β}
    (hs : ∀ n i s, i < len → L (n + 1) (Int.ofNat i) s = if p i s = true then L n (Int.ofNat (i + 1)) (f i s) else some (.inl (g i s))) (he : ∀ n s, L (n + 1) (Int.ofNat len) s = some (.inr (e s))) :
    ∀ k i n s, i + k = len → k < n → L n (Int.ofNat i) s = some (walkS p f g e k i s)
  | 0, i, n, s, hk, hn => by
    obtain ⟨n, rfl⟩ : ∃ m, n = m + 1 := ⟨n - 1, by omega⟩
    obtain rfl : i = len := by omega
    exact he n s
  | k + 1, i, n, s, hk, hn => by
    obtain ⟨n, rfl⟩ : ∃ m, n = m + 1 := ⟨n - 1, by omega⟩
    rw [hs n i s (by omega)]
    unfold walkS
    cases p i s
    · simp
    · simp only [if_true]
      exact walks p f hs he k (i + 1) n (f i s) (by omega) (by omega)
theorem validRoseB_len {xs ys : List Nat} (h : validRoseB xs ys = true) : 1 ≤ xs.length ∧ xs.length ≤ 16 ∧ ys.length = xs.length ∧ (∀ x ∈ xs, leastB x = true) ∧ ∀ y ∈ ys, leastB y = true := by
  unfold validRoseB at h
  simp only [Bool.and_eq_true, decide_eq_true_eq, List.all_eq_true] at h
  exact ⟨h.1, h.2.1, h.2.2.1, h.2.2.2.1, h.2.2.2.2⟩
theorem rose_law {xs ys : List Nat} (mx : xs.length ≤ maxLen) (my : ys.length ≤ maxLen) : ∃ r, laws_szRose_p xs.length xs ys.length ys 1048576 = true ∧ laws_szRose_v0 xs.length xs ys.length ys 1048576 = r ∧
    (r < 0 ∨ (ltI r 0 = false ∧ xs.length + ys.length ≤ 1048576 ∧ laws_toRose_p xs.length xs ys.length ys = true ∧ laws_toRose_v0 xs.length xs ys.length ys = xs.length ∧ laws_toRose_v1 xs.length xs ys.length ys = ys.length ∧
      laws_toRose_v2 xs.length xs ys.length ys = xs ∧ laws_toRose_v3 xs.length xs ys.length ys = ys ∧ laws_eqRose_p xs.length xs ys.length ys xs.length xs ys.length ys = true ∧ laws_eqRose_v0 xs.length xs ys.length ys xs.length xs ys.length ys = true)) := by
  obtain ⟨r1, h1, k1, _⟩ := laws_szRose_gen (left := 1048576) mx my (by decide) (by decide)
  obtain ⟨p1, q1⟩ := laws_szRose_of h1
  refine ⟨r1, p1, q1, ?_⟩
  by_cases c1 : r1 < 0
  · exact .inl c1
  · have l1 := k1 (by omega)
    obtain ⟨p3, a3, b3, c3, d3⟩ := laws_toRose_of (laws_toRose_eq (xs := xs) (ys := ys) (by omega) (by omega))
    obtain ⟨p7, q7⟩ := laws_eqRose_of (laws_eqRose_refl (xs := xs) (ys := ys) (by omega) (by omega))
    exact .inr ⟨ltI_f c1, l1, p3, a3, b3, c3, d3, p7, q7⟩
abbrev StrS := Int × Nat
def strP (xs ys : List Nat) (j : Nat) : Nat := fop .mul .f32 (xs.getD j 0) (airPower 1065353216 (ys.getD j 0))
def strF (xs ys : List Nat) (j : Nat) (s : StrS) : StrS := if j = 0 then (Int.ofNat j, strP xs ys j) else (if fcmp .gtr .f32 (strP xs ys j) s.2 = true then (Int.ofNat j, strP xs ys j) else s)
def strW (xs ys : List Nat) : Unit ⊕ StrS := walkS (fun j (_ : StrS) => finB (strP xs ys j)) (strF xs ys) (fun _ _ => ()) id xs.length 0 (0, 0)
def strR (xs ys : List Nat) : Int × Nat × Bool := if validRoseB xs ys = true then (match strW xs ys with | .inl _ => (0, 0, false) | .inr s => (s.1, s.2, true)) else (0, 0, false)
theorem eqN0 (i : Nat) : eqI (Int.ofNat i) 0 = decide (i = 0) := by
  unfold eqI
  by_cases h : i = 0
  · subst h; rfl
  · rw [decide_eq_false h]; exact decide_eq_false (by simp; omega)
theorem walkS_map {σ α β γ : Type} {p : Nat → σ → Bool} {f : Nat → σ → σ} {g : Nat → σ → α} {e : σ → β} : ∀ (k i : Nat) (s : σ), walkS p f g e k i s = (walkS p f g id k i s).map id e
  | 0, i, s => rfl
  | k + 1, i, s => by
    unfold walkS
    by_cases h : p i s = true
    · rw [if_pos h, if_pos h]; exact walkS_map (γ := γ) k (i + 1) (f i s)
    · rw [if_neg h, if_neg h]; rfl
theorem one_least : leastB 1065353216 = true := by decide +kernel
theorem impl_StrongestSector_eq {xs ys : List Nat} (hx : xs.length < 281474976710656) (hy : ys.length < 281474976710656) : F_impl_StrongestSector xs.length xs ys.length ys = some (strR xs ys) := by
  obtain ⟨p1, q1⟩ := impl_ValidRose_of (impl_ValidRose_eq hx hy)
  unfold F_impl_StrongestSector T_impl_StrongestSector strR
  simp only [pF_all, p1, q1, grd_true]
  cases hv : validRoseB xs ys
  · rfl
  · obtain ⟨k1, k2, k3, k4, k5⟩ := validRoseB_len hv
    have hf := walks (L := fun n i (s : StrS) => L_impl_StrongestSector_l5 xs.length (Int.ofNat xs.length) xs ys ys.length n s.1 s.2 i) (len := xs.length) (fun i _ => finB (strP xs ys i)) (strF xs ys) (g := fun _ _ => ()) (e := fun s => (s.1, s.2, Int.ofNat xs.length, false))
      (fun n i s hi => by
        show L_impl_StrongestSector_l5 _ _ _ _ _ _ _ _ _ = if _ then L_impl_StrongestSector_l5 _ _ _ _ _ _ _ _ _ else _
        obtain ⟨p3, q3, r3⟩ := impl_AirPower_of (impl_AirPower_eq 1065353216 (ys.getD i 0))
        have hR : airPowerR 1065353216 (ys.getD i 0) = (checkV (airPower 1065353216 (ys.getD i 0)), finB (airPower 1065353216 (ys.getD i 0))) := by
          unfold airPowerR
          rw [one_least, k5 _ (get_mem (by omega))]; rfl
        rw [hR] at q3 r3
        obtain ⟨p4, q4⟩ := impl_IsFinite_of (impl_IsFinite_eq (strP xs ys i))
        rw [L_impl_StrongestSector_l5_succ]; unfold T_impl_StrongestSector_l5; rw [ltN_t hi, okIx_t hi, okIx_t (show i < ys.length by omega), ix1, addI1 (by omega), eqN0]
        simp only [gF, p3, q3, r3, grd_true, br_true]
        cases hp : finB (airPower 1065353216 (ys.getD i 0)) with
        | false =>
          have : finB (strP xs ys i) = false := by
            cases hq : finB (strP xs ys i) with
            | false => rfl
            | true =>
              rw [finB_eq] at hq
              have := (mul_fin hq).2
              rw [← finB_eq, hp] at this; cases this
          rw [this]; rfl
        | true =>
          have hc : checkV (airPower 1065353216 (ys.getD i 0)) = airPower 1065353216 (ys.getD i 0) := by unfold checkV; rw [if_pos hp]
          unfold strP at p4 q4
          rw [hc, p4, q4]
          unfold strF strP
          simp only [bnot_true, br_false, grd_true]
          cases finB (fop .mul .f32 (xs.getD i 0) (airPower 1065353216 (ys.getD i 0)))
          · rfl
          · by_cases h0 : i = 0
            · subst h0; rfl
            · rw [decide_eq_false h0, if_neg h0]
              cases fcmp .gtr .f32 (fop .mul .f32 (xs.getD i 0) (airPower 1065353216 (ys.getD i 0))) s.2 <;> rfl)
      (fun n s => by show L_impl_StrongestSector_l5 _ _ _ _ _ _ _ _ _ = _; rw [L_impl_StrongestSector_l5_succ]; unfold T_impl_StrongestSector_l5; rw [ltN_f (Nat.le_refl _)]; rfl) xs.length 0 big (0, 0) (by omega) (big_gt (by omega))
    rw [walkS_map (γ := Unit)] at hf
    have hw : strW xs ys = walkS (fun j (_ : StrS) => finB (strP xs ys j)) (strF xs ys) (fun _ _ => ()) id xs.length 0 (0, 0) := rfl
    rw [← hw] at hf
    cases hc : strW xs ys with
    | inl u =>
      rw [hc] at hf
      obtain ⟨g1, g2⟩ := impl_StrongestSector_l5_of0 rfl hf
      have g1 : impl_StrongestSector_l5_p xs.length (Int.ofNat xs.length) xs ys ys.length 0 0 0 = true := g1
      have g2 : impl_StrongestSector_l5_w0 xs.length (Int.ofNat xs.length) xs ys ys.length 0 0 0 = true := g2
      simp only [g1, g2, grd_true, bnot_true, br_false, br_true, if_true]
    | inr s =>
      rw [hc] at hf
      obtain ⟨g1, g2, g3, g4, _⟩ := impl_StrongestSector_l5_of1 rfl hf
      have g1 : impl_StrongestSector_l5_p xs.length (Int.ofNat xs.length) xs ys ys.length 0 0 0 = true := g1
      have g2 : impl_StrongestSector_l5_w0 xs.length (Int.ofNat xs.length) xs ys ys.length 0 0 0 = false := g2
      have g3 : impl_StrongestSector_l5_a1_0 xs.length (Int.ofNat xs.length) xs ys ys.length 0 0 0 = s.1 := g3
      have g4 : impl_StrongestSector_l5_a1_1 xs.length (Int.ofNat xs.length) xs ys ys.length 0 0 0 = s.2 := g4
      simp only [g1, g2, g3, g4, grd_true, bnot_true, br_false, br_true, if_true]
theorem spec_StrongestSector_eq {xs ys : List Nat} (hx : xs.length < 281474976710656) : F_spec_StrongestSector xs.length xs ys.length ys = some (strR xs ys) := by
  obtain ⟨p1, q1⟩ := spec_l04Rose_of (spec_l04Rose_eq (ys := ys) hx)
  unfold F_spec_StrongestSector T_spec_StrongestSector strR
  simp only [pF_all, p1, q1, grd_true]
  cases hv : validRoseB xs ys
  · rfl
  · obtain ⟨k1, k2, k3, k4, k5⟩ := validRoseB_len hv
    have hf := walks (L := fun n i (s : StrS) => L_spec_StrongestSector_l6 xs ys xs.length ys.length n s.1 s.2 i) (len := xs.length) (fun i _ => finB (strP xs ys i)) (strF xs ys) (g := fun _ _ => ()) (e := fun s => (s.1, s.2, Int.ofNat xs.length, false))
      (fun n i s hi => by
        show L_spec_StrongestSector_l6 _ _ _ _ _ _ _ _ = if _ then L_spec_StrongestSector_l6 _ _ _ _ _ _ _ _ else _
        obtain ⟨p3, q3⟩ := spec_l04Power_of (show F_spec_l04Power 1065353216 (ys.getD i 0) = some (airPower 1065353216 (ys.getD i 0)) from rfl)
        obtain ⟨p4, q4⟩ := spec_l01Finite_of (spec_l01Finite_eq (strP xs ys i))
        rw [L_spec_StrongestSector_l6_succ]; unfold T_spec_StrongestSector_l6; rw [ltN_t hi, okIx_t hi, okIx_t (show i < ys.length by omega), ix1, addI1 (by omega), eqN0]
        unfold strP at p4 q4
        simp only [gF, p3, q3, p4, q4, grd_true, br_true]
        unfold strF strP
        cases finB (fop .mul .f32 (xs.getD i 0) (airPower 1065353216 (ys.getD i 0)))
        · rfl
        · by_cases h0 : i = 0
          · subst h0; rfl
          · rw [decide_eq_false h0, if_neg h0]
            cases fcmp .gtr .f32 (fop .mul .f32 (xs.getD i 0) (airPower 1065353216 (ys.getD i 0))) s.2 <;> rfl)
      (fun n s => by show L_spec_StrongestSector_l6 _ _ _ _ _ _ _ _ = _; rw [L_spec_StrongestSector_l6_succ]; unfold T_spec_StrongestSector_l6; rw [ltN_f (Nat.le_refl _)]; rfl) xs.length 0 big (0, 0) (by omega) (big_gt (by omega))
    rw [walkS_map (γ := Unit)] at hf
    have hw : strW xs ys = walkS (fun j (_ : StrS) => finB (strP xs ys j)) (strF xs ys) (fun _ _ => ()) id xs.length 0 (0, 0) := rfl
    rw [← hw] at hf
    cases hc : strW xs ys with
    | inl u =>
      rw [hc] at hf
      obtain ⟨g1, g2⟩ := spec_StrongestSector_l6_of0 rfl hf
      have g1 : spec_StrongestSector_l6_p xs ys xs.length ys.length 0 0 0 = true := g1
      have g2 : spec_StrongestSector_l6_w0 xs ys xs.length ys.length 0 0 0 = true := g2
      simp only [g1, g2, grd_true, bnot_true, br_false, br_true, if_true]
    | inr s =>
      rw [hc] at hf
      obtain ⟨g1, g2, g3, g4, _⟩ := spec_StrongestSector_l6_of1 rfl hf
      have g1 : spec_StrongestSector_l6_p xs ys xs.length ys.length 0 0 0 = true := g1
      have g2 : spec_StrongestSector_l6_w0 xs ys xs.length ys.length 0 0 0 = false := g2
      have g3 : spec_StrongestSector_l6_a1_0 xs ys xs.length ys.length 0 0 0 = s.1 := g3
      have g4 : spec_StrongestSector_l6_a1_1 xs ys xs.length ys.length 0 0 0 = s.2 := g4
      simp only [g1, g2, g3, g4, grd_true, bnot_true, br_false, br_true, if_true]
theorem plain_FnExactStrongestSector {xs ys : List Nat} (hx : ∀ x ∈ xs, canW .f32 x) (mx : xs.length ≤ maxLen) (hy : ∀ x ∈ ys, canW .f32 x) (my : ys.length ≤ maxLen) : F_laws_FnExactStrongestSector xs.length xs ys.length ys = some true := by
  obtain ⟨r, p1, q1, h⟩ := rose_law mx my
  unfold F_laws_FnExactStrongestSector T_laws_FnExactStrongestSector
  simp only [pF_all, p1, q1, grd_true]
  rcases h with h | ⟨e, l, p2, a2, b2, c2, d2, p3, q3⟩
  · rw [ltI_t h]; rfl
  · obtain ⟨p4, q4, r4, s4⟩ := impl_StrongestSector_of (impl_StrongestSector_eq (xs := xs) (ys := ys) (by omega) (by omega))
    obtain ⟨p5, q5, r5, s5⟩ := spec_StrongestSector_of (spec_StrongestSector_eq (xs := xs) (ys := ys) (by omega))
    obtain ⟨p6, q6⟩ := laws_sameFloat_of (laws_sameFloat_refl (fcvV .f32 .f64 (strR xs ys).2.1))
    simp only [e, p2, a2, b2, c2, d2, pF_all, p3, q3, p4, q4, r4, s4, p5, q5, r5, s5, p6, q6, grd_true, br_false, bnot_true, beqB_self, neI_self]
end Go.Rf
