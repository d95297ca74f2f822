/-
  Plain laws.
-/
import Derived.Test.YtohhkgieggfpeabSmoothWindsP
set_option linter.unusedVariables false
set_option linter.unusedSimpArgs false
set_option maxRecDepth 100000
set_option maxHeartbeats 4000000
namespace Go.Rf
open Go
def finB (x : Nat) : Bool := fcmp .eql .f32 (fop .sub .f32 x x) 0
def leastB (x : Nat) : Bool := finB x && fcmp .geq .f32 x 0
theorem impl_IsFinite_eq (x : Nat) : F_impl_IsFinite x = some (finB x) := rfl
theorem spec_l01Finite_eq (x : Nat) : F_spec_l01Finite x = some (finB x) := rfl
theorem impl_isLeast_eq (x : Nat) : F_impl_isLeast x = some (leastB x) := by
  obtain ⟨h1, h2⟩ := impl_IsFinite_of (impl_IsFinite_eq x)
  unfold F_impl_isLeast T_impl_isLeast leastB
  rw [h1, h2]
  cases finB x <;> rfl
theorem spec_l02Least_eq (x : Nat) : F_spec_l02Least x = some (leastB x) := by
  obtain ⟨h1, h2⟩ := spec_l01Finite_of (spec_l01Finite_eq x)
  unfold F_spec_l02Least T_spec_l02Least leastB
  rw [h1, h2]
  cases finB x <;> rfl
theorem impl_areLeast_1_eq (x : Nat) : F_impl_areLeast_1 x = some (!leastB x) := by
  obtain ⟨h1, h2⟩ := impl_isLeast_of (impl_isLeast_eq x)
  unfold F_impl_areLeast_1 T_impl_areLeast_1
  rw [h1, h2]; rfl
theorem laws_sameFloat_refl (x : Nat) : F_laws_sameFloat x x = some true := by
  unfold F_laws_sameFloat T_laws_sameFloat
  simp only [neq_self]
  cases hn : nanB .f64 x with
  | true => rfl
  | false =>
    have he : fcmp .eql .f64 x x = true := by rw [(fcmp_num .f64 hn hn).1]; simp
    simp only [br_if, Bool.false_eq_true, if_false, he, beqB, BEq.rfl]
    split <;> rfl
theorem slices_IndexFunc_areLeast {xs : List Nat} (hl : xs.length < 281474976710656) : ∃ r : Int, F_slices_IndexFunc_sf32_f32_areLeast_1 xs.length xs = some r ∧ leI 0 r = !xs.all leastB := by
  unfold F_slices_IndexFunc_sf32_f32_areLeast_1 T_slices_IndexFunc_sf32_f32_areLeast_1
  rcases scan_all (L := L_slices_IndexFunc_sf32_f32_areLeast_1_l2 xs.length (Int.ofNat xs.length) xs) xs leastB (g := fun i => Int.ofNat i) (e := (Int.ofNat xs.length, false))
    (fun n i hi => by
      rw [L_slices_IndexFunc_sf32_f32_areLeast_1_l2_succ]; unfold T_slices_IndexFunc_sf32_f32_areLeast_1_l2; rw [ltN_t hi, okIx_t hi, ix1, addI1 (by omega)]
      simp only [gF]
      generalize xs.getD i 0 = x
      obtain ⟨h1, h2⟩ := impl_areLeast_1_of (impl_areLeast_1_eq x)
      simp only [br_if, grd_true, h1, h2]
      rcases Bool.eq_false_or_eq_true (leastB x) with h | h <;> simp [h])
    (fun n => by rw [L_slices_IndexFunc_sf32_f32_areLeast_1_l2_succ]; unfold T_slices_IndexFunc_sf32_f32_areLeast_1_l2; rw [ltN_f (Nat.le_refl _)]; rfl) hl with ⟨h1, h2⟩ | ⟨j, h2, h3, h4⟩
  · obtain ⟨g1, g2, _⟩ := slices_IndexFunc_sf32_f32_areLeast_1_l2_of1 rfl h2
    exact ⟨Int.negSucc 0, by rw [g1, g2]; rfl, by rw [h1]; rfl⟩
  · obtain ⟨g1, g2, g3⟩ := slices_IndexFunc_sf32_f32_areLeast_1_l2_of0 rfl h4
    exact ⟨Int.ofNat j, by rw [g1, g2, g3]; rfl, by rw [h3]; exact decide_eq_true (by simp)⟩
theorem slices_ContainsFunc_areLeast {xs : List Nat} (hl : xs.length < 281474976710656) : F_slices_ContainsFunc_sf32_f32_areLeast_1 xs.length xs = some (!xs.all leastB) := by
  obtain ⟨r, h1, h2⟩ := slices_IndexFunc_areLeast hl
  obtain ⟨g1, g2⟩ := slices_IndexFunc_sf32_f32_areLeast_1_of h1
  unfold F_slices_ContainsFunc_sf32_f32_areLeast_1 T_slices_ContainsFunc_sf32_f32_areLeast_1
  rw [pF_all, g1, g2, h2]; rfl
theorem impl_areLeast_eq {xs : List Nat} (hl : xs.length < 281474976710656) : F_impl_areLeast xs.length xs = some (xs.all leastB) := by
  obtain ⟨g1, g2⟩ := slices_ContainsFunc_sf32_f32_areLeast_1_of (slices_ContainsFunc_areLeast hl)
  unfold F_impl_areLeast T_impl_areLeast
  rw [pF_all, g1, g2]
  simp [grd_true, bnot]
theorem laws_toFloat32S_eq {xs : List Nat} (hl : xs.length ≤ 1099511627776) : F_laws_toFloat32S xs.length xs = some (xs.length, xs) := by
  have hf := folds (L := L_laws_toFloat32S_l3 xs.length xs.length xs) (len := xs.length) (fun i s => s.set i (xs.getD i 0)) (e := fun s => (Int.ofNat xs.length, false, s))
    (fun n i s hi => by rw [L_laws_toFloat32S_l3_succ]; unfold T_laws_toFloat32S_l3; rw [ltN_t hi, okIx_t hi, ix1, addI1 (by omega)]; rfl)
    (fun n s => by rw [L_laws_toFloat32S_l3_succ]; unfold T_laws_toFloat32S_l3; rw [ltN_f (Nat.le_refl _)]; rfl) xs.length 0 big (List.replicate xs.length 0) (by omega) (big_gt (by omega))
  rw [copy_fold xs _ _ _ (by omega) (by simp)] at hf
  simp only [List.take_zero, List.drop_zero, List.nil_append] at hf
  obtain ⟨g1, _, _, g2⟩ := laws_toFloat32S_l3_of0 rfl hf
  have e : rF (muN (toN (Int.ofNat xs.length)) 1) = List.replicate xs.length 0 := by simp [rF, muN, toN]
  have ho : okMk (Int.ofNat xs.length) (Int.ofNat xs.length) 4 = true := decide_eq_true ⟨rfl, by simp, by simp; omega, by decide⟩
  unfold F_laws_toFloat32S T_laws_toFloat32S
  rw [e, ho, toN_nat]
  show grd (laws_toFloat32S_l3_p xs.length xs.length xs (Int.ofNat 0) (List.replicate xs.length 0)) (some (_, laws_toFloat32S_l3_a0_2 xs.length xs.length xs (Int.ofNat 0) (List.replicate xs.length 0))) = _
  rw [g1, g2]; rfl
theorem laws_eqFloat32S_refl {xs : List Nat} (hl : xs.length < 281474976710656) : F_laws_eqFloat32S xs.length xs xs.length xs = some true := by
  have hn : neI (Int.ofNat xs.length) (Int.ofNat xs.length) = false := by simp [neI]
  unfold F_laws_eqFloat32S T_laws_eqFloat32S
  rw [hn]
  rcases scan_all (L := L_laws_eqFloat32S_l4 xs.length xs.length xs xs) xs (fun _ => true) (g := fun i => ()) (e := (Int.ofNat xs.length, false))
    (fun n i hi => by
      obtain ⟨h1, h2⟩ := laws_sameFloat_of (laws_sameFloat_refl (fcvV FloatKind.f32 FloatKind.f64 (gF xs i)))
      rw [L_laws_eqFloat32S_l4_succ]; unfold T_laws_eqFloat32S_l4; rw [ltN_t hi, okIx_t hi, ix1, addI1 (by omega), h1, h2]
      rfl)
    (fun n => by rw [L_laws_eqFloat32S_l4_succ]; unfold T_laws_eqFloat32S_l4; rw [ltN_f (Nat.le_refl _)]; rfl) hl with ⟨h1, h2⟩ | ⟨j, h2, h3, h4⟩
  · obtain ⟨g1, g2, _⟩ := laws_eqFloat32S_l4_of1 rfl h2
    rw [g1, g2]; rfl
  · simp at h3
theorem beqB_self (b : Bool) : beqB b b = true := by cases b <;> rfl
theorem neI_self (i : Int) : neI i i = false := by simp [neI]
theorem bnot_true : bnot true = false := rfl
theorem leN (a b : Nat) : leI (Int.ofNat a) (Int.ofNat b) = decide (a ≤ b) := by by_cases h : a ≤ b <;> simp [leI, h] <;> omega
theorem ltN (a b : Nat) : ltI (Int.ofNat a) (Int.ofNat b) = decide (a < b) := by by_cases h : a < b <;> simp [ltI, h] <;> omega
def windsB (xs : List Nat) : Bool := decide (1 ≤ xs.length) && (decide (xs.length ≤ 256) && xs.all leastB)
theorem impl_areWinds_eq {xs : List Nat} (hl : xs.length < 281474976710656) : F_impl_areWinds xs.length xs = some (windsB xs) := by
  obtain ⟨p1, q1⟩ := impl_areLeast_of (impl_areLeast_eq hl)
  have e1 : leI 1 (Int.ofNat xs.length) = decide (1 ≤ xs.length) := leN 1 _
  have e2 : leI (Int.ofNat xs.length) 256 = decide (xs.length ≤ 256) := leN _ 256
  unfold F_impl_areWinds T_impl_areWinds windsB
  simp only [pF_all, p1, q1, grd_true]
  rw [e1, e2]
  cases decide (1 ≤ xs.length) <;> cases decide (xs.length ≤ 256) <;> rfl
theorem spec_l04Winds_eq {xs : List Nat} (hl : xs.length < 281474976710656) : F_spec_l04Winds xs.length xs = some (windsB xs) := by
  have e1 : leI 1 (Int.ofNat xs.length) = decide (1 ≤ xs.length) := leN 1 _
  have e2 : leI (Int.ofNat xs.length) 256 = decide (xs.length ≤ 256) := leN _ 256
  unfold F_spec_l04Winds T_spec_l04Winds windsB
  rw [e1, e2]
  by_cases h : xs.length ≤ 256
  · rw [decide_eq_true h]
    rcases scan_all (L := L_spec_l04Winds_l2 xs.length xs) xs leastB (g := fun _ => ()) (e := (Int.ofNat xs.length, false))
      (fun n i hi => by
        rw [L_spec_l04Winds_l2_succ]; unfold T_spec_l04Winds_l2; rw [ltN_t hi, okIx_t hi, ix1, addI1 (by omega), e2, decide_eq_true h]
        obtain ⟨h1, h2⟩ := spec_l02Least_of (spec_l02Least_eq (xs.getD i 0))
        simp only [gF, br_true, grd_true, h1, h2]
        cases leastB (xs.getD i 0) <;> rfl)
      (fun n => by rw [L_spec_l04Winds_l2_succ]; unfold T_spec_l04Winds_l2; rw [ltN_f (Nat.le_refl _)]; rfl) hl with ⟨h1, h2⟩ | ⟨j, h2, h3, h4⟩
    · obtain ⟨g1, g2, _⟩ := spec_l04Winds_l2_of1 rfl h2
      rw [g1, g2, h1]
      cases decide (1 ≤ xs.length) <;> rfl
    · obtain ⟨g1, g2⟩ := spec_l04Winds_l2_of0 rfl h4
      rw [g1, g2, h3]
      cases decide (1 ≤ xs.length) <;> rfl
  · rw [decide_eq_false h]
    obtain ⟨n, hn⟩ : ∃ n, big = n + 1 := ⟨big - 1, by have := big_gt (k := 1) (by decide); omega⟩
    have h2 : L_spec_l04Winds_l2 xs.length xs big 0 = some (Sum.inr (Int.ofNat 0, false)) := by
      rw [hn, L_spec_l04Winds_l2_succ]; unfold T_spec_l04Winds_l2
      rw [show ltI 0 (Int.ofNat xs.length) = true from ltN_t (a := 0) (by omega), e2, decide_eq_false h]; rfl
    obtain ⟨g1, g2, _⟩ := spec_l04Winds_l2_of1 rfl h2
    rw [g1, g2]
    cases decide (1 ≤ xs.length) <;> rfl
def sumL (xs : List Nat) : Nat := xs.foldl (fun s x => fop .add .f32 s x) 0
theorem foldl_getD {σ : Type} (f : σ → Nat → σ) : ∀ (xs : List Nat) (s : σ), (List.range' 0 xs.length).foldl (fun s j => f s (xs.getD j 0)) s = xs.foldl f s := by
  intro xs
  rw [← List.range_eq_range']
  induction xs with
  | nil => intro s; rfl
  | cons x xs ih =>
    intro s
    rw [List.length_cons, List.range_succ_eq_map, List.foldl_cons, List.foldl_map]
    exact ih _
def meanL (xs : List Nat) : Nat := fop .quo .f32 (sumL xs) (fOI .f32 (Int.ofNat xs.length))
theorem spec_l04Mean_eq {xs : List Nat} (hl : xs.length < 281474976710656) : F_spec_l04Mean xs.length xs = some (meanL xs) := by
  have hf := folds (L := fun n i s => L_spec_l04Mean_l3 xs.length xs n s i) (len := xs.length) (fun i s => fop .add .f32 s (xs.getD i 0)) (e := fun s => (s, Int.ofNat xs.length, false))
    (fun n i s hi => by show L_spec_l04Mean_l3 _ _ _ _ _ = _; rw [L_spec_l04Mean_l3_succ]; unfold T_spec_l04Mean_l3; rw [ltN_t hi, okIx_t hi, ix1, addI1 (by omega)]; rfl)
    (fun n s => by show L_spec_l04Mean_l3 _ _ _ _ _ = _; rw [L_spec_l04Mean_l3_succ]; unfold T_spec_l04Mean_l3; rw [ltN_f (Nat.le_refl _)]; rfl) xs.length 0 big 0 (by omega) (big_gt (by omega))
  rw [foldl_getD (fun s x => fop .add .f32 s x)] at hf
  obtain ⟨g1, g2, _⟩ := spec_l04Mean_l3_of0 rfl hf
  unfold F_spec_l04Mean T_spec_l04Mean
  show grd (spec_l04Mean_l3_p xs.length xs 0 (Int.ofNat 0)) (some (fop .quo .f32 (spec_l04Mean_l3_a0_0 xs.length xs 0 (Int.ofNat 0)) _)) = _
  rw [g1, g2]; rfl
theorem impl_sum_eq {xs : List Nat} (hl : xs.length < 281474976710656) : F_impl_sum xs.length xs = some (sumL xs) := by
  have hf := folds (L := fun n i s => L_impl_sum_l3 xs.length (Int.ofNat xs.length) xs n s i) (len := xs.length) (fun i s => fop .add .f32 s (xs.getD i 0)) (e := fun s => (s, Int.ofNat xs.length, false))
    (fun n i s hi => by show L_impl_sum_l3 _ _ _ _ _ _ = _; rw [L_impl_sum_l3_succ]; unfold T_impl_sum_l3; rw [ltN_t hi, okIx_t hi, ix1, addI1 (by omega)]; rfl)
    (fun n s => by show L_impl_sum_l3 _ _ _ _ _ _ = _; rw [L_impl_sum_l3_succ]; unfold T_impl_sum_l3; rw [ltN_f (Nat.le_refl _)]; rfl) xs.length 0 big 0 (by omega) (big_gt (by omega))
  rw [foldl_getD (fun s x => fop .add .f32 s x)] at hf
  obtain ⟨g1, g2, _⟩ := impl_sum_l3_of0 rfl hf
  unfold F_impl_sum T_impl_sum
  show grd (impl_sum_l3_p xs.length (Int.ofNat xs.length) xs 0 (Int.ofNat 0)) (some (impl_sum_l3_a0_0 xs.length (Int.ofNat xs.length) xs 0 (Int.ofNat 0))) = _
  rw [g1, g2]; rfl
theorem impl_meanOf_eq {xs : List Nat} (hl : xs.length < 281474976710656) : F_impl_meanOf xs.length xs = some (meanL xs) := by
  obtain ⟨p1, q1⟩ := impl_sum_of (impl_sum_eq hl)
  unfold F_impl_meanOf T_impl_meanOf
  simp only [pF_all, p1, q1, grd_true]; rfl
def inB (n low high : Int) : Bool := decide (low ≤ n) && decide (n ≤ high)
theorem spec_l00In_eq (n low high : Int) : F_spec_l00In n low high = some (inB n low high) := by
  unfold F_spec_l00In T_spec_l00In inB leI
  cases decide (low ≤ n) <;> rfl
theorem impl_within_eq (n low high : Int) : F_impl_within n low high = some (inB n low high) := by
  unfold F_impl_within T_impl_within inB leI
  cases decide (low ≤ n) <;> rfl
theorem inB_le {n l h : Int} (e : inB n l h = true) : l ≤ n ∧ n ≤ h := by
  unfold inB at e
  rw [Bool.and_eq_true] at e
  exact ⟨of_decide_eq_true e.1, of_decide_eq_true e.2⟩
def marks (k0 : Int) (n : Nat) : List Nat := (List.range n).map fun (j : Nat) => fOI .f32 (k0 + (j : Int))
theorem marks_length (k0 : Int) (n : Nat) : (marks k0 n).length = n := by simp [marks]
theorem marks_get {k0 : Int} {n i : Nat} (h : i < n) : (marks k0 n).getD i 0 = fOI .f32 (k0 + (i : Int)) := by
  simp [marks, List.getD_eq_getElem?_getD, h]
theorem fOI_nan (k : FloatKind) (n : Int) : nanB k (fOI k n) = false := by
  rw [show fOI k n = floatOfInt k n from rfl, fOI_eq]
  exact nanB_word k _ (rnd_inf _ _ _)
theorem addI_in {a b : Int} (h1 : -9223372036854775808 ≤ a + b) (h2 : a + b ≤ 9223372036854775807) : addI .i64 a b = a + b := wrap64 h1 h2
theorem mark_loop {L : Nat → Int → Int → List Nat → Option (Int × Int × Bool × List Nat)} {len : Nat} {k0 : Int} {ys : List Nat} (hy : ys.length = len) (hk : 0 ≤ k0) (hk2 : k0 ≤ 1099511627776) (hl : len < 281474976710656)
    (hs : ∀ n k i b, L (n + 1) k i b = br (ltI i (Int.ofNat len)) (grd (okIx i len) (L n (addI .i64 k 1) (addI .i64 i 1) (sF b (ixO 0 i 1) (fOI .f32 k)))) (some (k, i, ltI i (Int.ofNat len), b))) :
    L big k0 0 ys = some (k0 + (len : Int), Int.ofNat len, false, marks k0 len) := by
  have hf := folds (L := fun n i s => L n (k0 + i) i s) (len := len) (fun i s => s.set i ((marks k0 len).getD i 0)) (e := fun s => (k0 + (len : Int), Int.ofNat len, false, s))
    (fun n i s hi => by
      show L _ _ _ _ = L _ _ _ _
      rw [hs, ltN_t hi, okIx_t hi, ix1, addI1 (by omega), addI_in (by simp; omega) (by simp; omega), marks_get hi]
      have : k0 + Int.ofNat i + 1 = k0 + Int.ofNat (i + 1) := by simp; omega
      rw [this]; rfl)
    (fun n s => by show L _ _ _ _ = _; rw [hs, ltN_f (Nat.le_refl _)]; rfl) len 0 big ys (by omega) (big_gt hl)
  have hm := copy_fold (marks k0 len) len 0 ys (by simp [marks_length]) (by rw [marks_length, hy])
  rw [hm] at hf
  simpa using hf
theorem laws_heldFloat32S_eq {k0 : Int} {n : Nat} (hk : 0 ≤ k0) (hk2 : k0 ≤ 1099511627776) (hl : n < 281474976710656) : F_laws_heldFloat32S n (marks k0 n) k0 = some (k0 + (n : Int)) := by
  unfold F_laws_heldFloat32S T_laws_heldFloat32S
  rcases scan (L := fun m i => L_laws_heldFloat32S_l2 n (marks k0 n) m (k0 + i) i) (len := n) (fun _ => true) (g := fun _ => ()) (e := (k0 + (n : Int), Int.ofNat n, false))
    (fun m i hi => by
      show L_laws_heldFloat32S_l2 _ _ _ _ _ = _
      rw [L_laws_heldFloat32S_l2_succ]; unfold T_laws_heldFloat32S_l2
      rw [ltN_t hi, okIx_t hi, ix1, addI1 (by omega), addI_in (by simp; omega) (by simp; omega)]
      have e : fcmp .neq .f32 (gF (marks k0 n) i) (fOI .f32 (k0 + Int.ofNat i)) = false := by
        show fcmp .neq .f32 ((marks k0 n).getD i 0) _ = false
        rw [marks_get hi]
        show fcmp .neq .f32 (fOI .f32 (k0 + Int.ofNat i)) (fOI .f32 (k0 + Int.ofNat i)) = false
        rw [neq_self, fOI_nan]
      have : k0 + Int.ofNat i + 1 = k0 + Int.ofNat (i + 1) := by simp; omega
      rw [e, this]; rfl)
    (fun m => by show L_laws_heldFloat32S_l2 _ _ _ _ _ = _; rw [L_laws_heldFloat32S_l2_succ]; unfold T_laws_heldFloat32S_l2; rw [ltN_f (Nat.le_refl _)]; rfl) n 0 big (by omega) (big_gt hl) with ⟨k1, k2⟩ | ⟨j, k1, k2, k3, k4⟩
  · have k2 : L_laws_heldFloat32S_l2 n (marks k0 n) big k0 0 = some (Sum.inr (k0 + (n : Int), Int.ofNat n, false)) := by simpa using k2
    obtain ⟨g1, g2, g3, _⟩ := laws_heldFloat32S_l2_of1 rfl k2
    rw [g1, g2, g3]; rfl
  · cases k3
def win (xs : List Nat) (w i : Nat) : List Nat := pF xs i w
theorem win_length {xs : List Nat} {w i : Nat} (h : i + w ≤ xs.length) : (win xs w i).length = w := by simp [win, pF]; omega
def wins (xs : List Nat) (w : Nat) : List Nat := (List.range (xs.length + 1 - w)).map fun i => meanL (win xs w i)
theorem wins_length (xs : List Nat) (w : Nat) : (wins xs w).length = xs.length + 1 - w := by simp [wins]
theorem wins_get {xs : List Nat} {w i : Nat} (h : i < xs.length + 1 - w) : (wins xs w).getD i 0 = meanL (win xs w i) := by
  simp [wins, List.getD_eq_getElem?_getD, h]
theorem take_succ_getD {ys : List Nat} {i : Nat} (h : i < ys.length) : ys.take i ++ [ys.getD i 0] = ys.take (i + 1) := by
  rw [List.take_succ_eq_append_getElem h]; simp [List.getD_eq_getElem?_getD, h]
theorem okA2_1 {n : Nat} {b : List Nat} (x : Nat) (hb : b.length = n) (hn : n < 1099511627776) : okA2 n 1 4 (nF (pF [x] 0 (muN 1 1))) (nF b) 1 = true :=
  decide_eq_true ⟨by omega, by omega, by simp [nF, pF, muN], by simp [nF, hb]⟩
theorem okSl_t {i j n : Nat} (h : i ≤ j) (h2 : j ≤ n) : okSl (Int.ofNat i) (Int.ofNat j) n = true := decide_eq_true ⟨by simp, by simp; omega, by simp; omega⟩
theorem runs {ρ : Type} {L : Nat → Int → Option ρ} {len : Nat} {e : ρ} (hs : ∀ n i, i < len → L (n + 1) (Int.ofNat i) = L n (Int.ofNat (i + 1))) (he : ∀ n, L (n + 1) (Int.ofNat len) = some e) (hl : len < 281474976710656) : L big 0 = some e := by
  have := folds (L := fun n i (_ : Unit) => L n i) (len := len) (fun _ _ => ()) (e := fun _ => e) (fun n i _ hi => hs n i hi) (fun n _ => he n) len 0 big () (by omega) (big_gt hl)
  exact this
theorem addNN {a b : Nat} (h : a + b < 4611686018427387904) : addI .i64 (Int.ofNat a) (Int.ofNat b) = Int.ofNat (a + b) := by
  rw [addI_in (by simp; omega) (by simp; omega)]; simp
theorem slN_add (i w : Nat) : slN (Int.ofNat i) (Int.ofNat (i + w)) = w := by show (i + w) - i = w; omega
theorem impl_Smooth_loop {xs : List Nat} {w : Nat} (h1 : 1 ≤ w) (h2 : w ≤ xs.length) (h3 : xs.length ≤ 256) :
    L_impl_SmoothWinds_l5 xs.length (Int.ofNat w) (Int.ofNat (xs.length + 1 - w)) xs big 0 0 [] = some (xs.length + 1 - w, Int.ofNat (xs.length + 1 - w), false, wins xs w) := by
  have := runs (L := fun n i => L_impl_SmoothWinds_l5 xs.length (Int.ofNat w) (Int.ofNat (xs.length + 1 - w)) xs n i.toNat i ((wins xs w).take i.toNat)) (len := xs.length + 1 - w) (e := (xs.length + 1 - w, Int.ofNat (xs.length + 1 - w), false, wins xs w))
    (fun n i hi => by
      show L_impl_SmoothWinds_l5 _ _ _ _ _ i _ ((wins xs w).take i) = L_impl_SmoothWinds_l5 _ _ _ _ _ (i + 1) _ ((wins xs w).take (i + 1))
      obtain ⟨p, q⟩ := impl_meanOf_of (impl_meanOf_eq (xs := win xs w i) (by rw [win_length (by omega)]; omega))
      rw [win_length (by omega)] at p q
      rw [L_impl_SmoothWinds_l5_succ]; unfold T_impl_SmoothWinds_l5
      rw [ltN_t hi, addNN (by omega), okSl_t (by omega) (by omega), slN_add, ix1, addI1 (by omega), show muN w 1 = w by simp [muN]]
      unfold win at p q
      rw [p, q, okA2_1 _ (by rw [List.length_take, wins_length]; omega) (by omega), ← take_succ_getD (by rw [wins_length]; exact hi), wins_get hi]
      rfl)
    (fun n => by
      show L_impl_SmoothWinds_l5 _ _ _ _ _ (xs.length + 1 - w) _ ((wins xs w).take (xs.length + 1 - w)) = _
      rw [L_impl_SmoothWinds_l5_succ]; unfold T_impl_SmoothWinds_l5; rw [ltN_f (Nat.le_refl _), br_false, List.take_of_length_le (by rw [wins_length]; omega)]) (by omega)
  exact this
theorem spec_Smooth_loop {xs : List Nat} {w : Nat} (h1 : 1 ≤ w) (h2 : w ≤ xs.length) (h3 : xs.length ≤ 256) :
    ((wins xs w).all finB = true ∧ L_spec_l04Smooth_l3 xs.length (Int.ofNat w) xs big 0 0 [] = some (.inr (xs.length + 1 - w, Int.ofNat (xs.length + 1 - w), false, wins xs w))) ∨
    ((wins xs w).all finB = false ∧ L_spec_l04Smooth_l3 xs.length (Int.ofNat w) xs big 0 0 [] = some (.inl ())) := by
  rcases scan (L := fun n i => L_spec_l04Smooth_l3 xs.length (Int.ofNat w) xs n i.toNat i ((wins xs w).take i.toNat)) (len := xs.length + 1 - w) (fun i => finB ((wins xs w).getD i 0)) (g := fun _ => ()) (e := (xs.length + 1 - w, Int.ofNat (xs.length + 1 - w), false, wins xs w))
    (fun n i hi => by
      show L_spec_l04Smooth_l3 _ _ _ _ i _ ((wins xs w).take i) = if _ then L_spec_l04Smooth_l3 _ _ _ _ (i + 1) _ ((wins xs w).take (i + 1)) else _
      obtain ⟨p, q⟩ := spec_l04Mean_of (spec_l04Mean_eq (xs := win xs w i) (by rw [win_length (by omega)]; omega))
      rw [win_length (by omega)] at p q
      obtain ⟨p2, q2⟩ := spec_l01Finite_of (spec_l01Finite_eq (meanL (win xs w i)))
      rw [L_spec_l04Smooth_l3_succ]; unfold T_spec_l04Smooth_l3
      rw [addNN (by omega), leN, decide_eq_true (show i + w ≤ xs.length by omega), okSl_t (by omega) (by omega), slN_add, ix1, addI1 (by omega), show muN w 1 = w by simp [muN]]
      unfold win at p q p2 q2
      rw [p, q, p2, q2, okA2_1 _ (by rw [List.length_take, wins_length]; omega) (by omega), ← take_succ_getD (by rw [wins_length]; exact hi), wins_get hi]
      unfold win
      cases finB (meanL (pF xs i w)) <;> rfl)
    (fun n => by
      show L_spec_l04Smooth_l3 _ _ _ _ (xs.length + 1 - w) _ ((wins xs w).take (xs.length + 1 - w)) = _
      rw [L_spec_l04Smooth_l3_succ]; unfold T_spec_l04Smooth_l3; rw [addNN (by omega), leN, decide_eq_false (by omega), br_false, List.take_of_length_le (by rw [wins_length]; omega)]) (xs.length + 1 - w) 0 big (by omega) (big_gt (by omega)) with ⟨k1, k2⟩ | ⟨j, k1, k2, k3, k4⟩
  · refine .inl ⟨?_, k2⟩
    rw [List.all_eq_true]
    intro x hx
    obtain ⟨i, hi, rfl⟩ := List.getElem_of_mem hx
    have := k1 i (Nat.zero_le _) (by rw [wins_length] at hi; exact hi)
    simpa [List.getD_eq_getElem?_getD, hi] using this
  · refine .inr ⟨?_, k4⟩
    rw [List.all_eq_false]
    have hj : j < (wins xs w).length := by rw [wins_length]; exact k2
    refine ⟨(wins xs w)[j], List.getElem_mem _, ?_⟩
    simpa [List.getD_eq_getElem?_getD, hj] using k3
theorem impl_areFinite_1_eq (x : Nat) : F_impl_areFinite_1 x = some (!finB x) := by
  obtain ⟨h1, h2⟩ := impl_IsFinite_of (impl_IsFinite_eq x)
  unfold F_impl_areFinite_1 T_impl_areFinite_1
  rw [h1, h2]; rfl
theorem slices_IndexFunc_areFinite {xs : List Nat} (hl : xs.length < 281474976710656) : ∃ r : Int, F_slices_IndexFunc_sf32_f32_areFinite_1 xs.length xs = some r ∧ leI 0 r = !xs.all finB := by
  unfold F_slices_IndexFunc_sf32_f32_areFinite_1 T_slices_IndexFunc_sf32_f32_areFinite_1
  rcases scan_all (L := L_slices_IndexFunc_sf32_f32_areFinite_1_l2 xs.length (Int.ofNat xs.length) xs) xs finB (g := fun i => Int.ofNat i) (e := (Int.ofNat xs.length, false))
    (fun n i hi => by
      rw [L_slices_IndexFunc_sf32_f32_areFinite_1_l2_succ]; unfold T_slices_IndexFunc_sf32_f32_areFinite_1_l2; rw [ltN_t hi, okIx_t hi, ix1, addI1 (by omega)]
      simp only [gF]
      generalize xs.getD i 0 = x
      obtain ⟨h1, h2⟩ := impl_areFinite_1_of (impl_areFinite_1_eq x)
      simp only [br_if, grd_true, h1, h2]
      rcases Bool.eq_false_or_eq_true (finB x) with h | h <;> simp [h])
    (fun n => by rw [L_slices_IndexFunc_sf32_f32_areFinite_1_l2_succ]; unfold T_slices_IndexFunc_sf32_f32_areFinite_1_l2; rw [ltN_f (Nat.le_refl _)]; rfl) hl with ⟨h1, h2⟩ | ⟨j, h2, h3, h4⟩
  · obtain ⟨g1, g2, _⟩ := slices_IndexFunc_sf32_f32_areFinite_1_l2_of1 rfl h2
    exact ⟨Int.negSucc 0, by rw [g1, g2]; rfl, by rw [h1]; rfl⟩
  · obtain ⟨g1, g2, g3⟩ := slices_IndexFunc_sf32_f32_areFinite_1_l2_of0 rfl h4
    exact ⟨Int.ofNat j, by rw [g1, g2, g3]; rfl, by rw [h3]; exact decide_eq_true (by simp)⟩
theorem slices_ContainsFunc_areFinite {xs : List Nat} (hl : xs.length < 281474976710656) : F_slices_ContainsFunc_sf32_f32_areFinite_1 xs.length xs = some (!xs.all finB) := by
  obtain ⟨r, h1, h2⟩ := slices_IndexFunc_areFinite hl
  obtain ⟨g1, g2⟩ := slices_IndexFunc_sf32_f32_areFinite_1_of h1
  unfold F_slices_ContainsFunc_sf32_f32_areFinite_1 T_slices_ContainsFunc_sf32_f32_areFinite_1
  rw [pF_all, g1, g2, h2]; rfl
theorem impl_areFinite_eq {xs : List Nat} (hl : xs.length < 281474976710656) : F_impl_areFinite xs.length xs = some (xs.all finB) := by
  obtain ⟨g1, g2⟩ := slices_ContainsFunc_sf32_f32_areFinite_1_of (slices_ContainsFunc_areFinite hl)
  unfold F_impl_areFinite T_impl_areFinite
  rw [pF_all, g1, g2]
  simp [grd_true, bnot]
def smoothR (xs : List Nat) (w : Int) : Nat × Bool × List Nat :=
  if windsB xs = true then (if inB w 1 (Int.ofNat xs.length) = true then (if (wins xs w.toNat).all finB = true then ((wins xs w.toNat).length, true, wins xs w.toNat) else (0, false, [])) else (0, false, [])) else (0, false, [])
theorem smoothR_length (xs : List Nat) (w : Int) : (smoothR xs w).2.2.length = (smoothR xs w).1 := by
  unfold smoothR
  split
  · split
    · split <;> rfl
    · rfl
  · rfl
theorem windsB_len {xs : List Nat} (h : windsB xs = true) : 1 ≤ xs.length ∧ xs.length ≤ 256 := by
  unfold windsB at h
  simp only [Bool.and_eq_true, decide_eq_true_eq] at h
  exact ⟨h.1, h.2.1⟩
theorem smoothR_le (xs : List Nat) (w : Int) : (smoothR xs w).1 ≤ 256 := by
  unfold smoothR
  split
  · rename_i h
    have := windsB_len h
    split
    · rename_i h2
      have := inB_le h2
      split
      · show (wins xs w.toNat).length ≤ 256
        rw [wins_length]; omega
      · simp
    · simp
  · simp
theorem subI1 {a b : Nat} (h : b ≤ a) (h2 : a < 4611686018427387904) : addI .i64 (subI .i64 (Int.ofNat a) (Int.ofNat b)) 1 = Int.ofNat (a + 1 - b) := by
  have : subI .i64 (Int.ofNat a) (Int.ofNat b) = (a : Int) - b := wrap64 (by simp; omega) (by simp; omega)
  rw [this, addI_in (by omega) (by omega)]
  simp; omega
theorem impl_SmoothWinds_eq {xs : List Nat} (w : Int) (hl : xs.length < 281474976710656) : F_impl_SmoothWinds xs.length xs w = some (smoothR xs w) := by
  obtain ⟨p1, q1⟩ := impl_areWinds_of (impl_areWinds_eq hl)
  obtain ⟨p2, q2⟩ := impl_within_of (impl_within_eq w 1 (Int.ofNat xs.length))
  unfold F_impl_SmoothWinds T_impl_SmoothWinds smoothR
  simp only [pF_all, p1, q1, p2, q2, grd_true]
  cases h1 : windsB xs
  · rfl
  · cases h2 : inB w 1 (Int.ofNat xs.length)
    · rfl
    · obtain ⟨k1, k2⟩ := windsB_len h1
      have h3 := inB_le h2
      obtain ⟨v, rfl⟩ : ∃ v : Nat, w = Int.ofNat v := ⟨w.toNat, by simp; omega⟩
      have h4 : 1 ≤ v ∧ v ≤ xs.length := ⟨by have := h3.1; simp at this; omega, by have := h3.2; simp at this; omega⟩
      obtain ⟨g1, g2, g3, g4, g5⟩ := impl_SmoothWinds_l5_of0 rfl (impl_Smooth_loop h4.1 h4.2 k2)
      obtain ⟨p5, q5⟩ := impl_areFinite_of (impl_areFinite_eq (xs := wins xs v) (by rw [wins_length]; omega))
      rw [wins_length] at p5 q5
      have hp : pF (wins xs v) 0 (muN (xs.length + 1 - v) 1) = wins xs v := by
        have := pF_all (wins xs v); rw [wins_length] at this; exact this
      simp only [subI1 h4.2 (by omega), g1, g2, g5, hp, p5, q5, bnot_true, br_false, if_true, grd_true]
      have e : (Int.ofNat v).toNat = v := rfl
      rw [e, wins_length]
      cases (wins xs v).all finB <;> rfl
theorem spec_SmoothWinds_eq {xs : List Nat} (w : Int) (hl : xs.length < 281474976710656) : F_spec_SmoothWinds xs.length xs w = some (smoothR xs w) := by
  obtain ⟨p1, q1⟩ := spec_l04Winds_of (spec_l04Winds_eq hl)
  obtain ⟨p2, q2⟩ := spec_l00In_of (spec_l00In_eq w 1 (Int.ofNat xs.length))
  unfold F_spec_SmoothWinds T_spec_SmoothWinds smoothR
  simp only [pF_all, p1, q1, p2, q2, grd_true]
  cases h1 : windsB xs
  · rfl
  · cases h2 : inB w 1 (Int.ofNat xs.length)
    · rfl
    · obtain ⟨k1, k2⟩ := windsB_len h1
      have h3 := inB_le h2
      obtain ⟨v, rfl⟩ : ∃ v : Nat, w = Int.ofNat v := ⟨w.toNat, by simp; omega⟩
      have h4 : 1 ≤ v ∧ v ≤ xs.length := ⟨by have := h3.1; simp at this; omega, by have := h3.2; simp at this; omega⟩
      have e : (Int.ofNat v).toNat = v := rfl
      have key : F_spec_l04Smooth xs.length xs (Int.ofNat v) = some (if (wins xs v).all finB = true then ((wins xs v).length, true, wins xs v) else (0, false, [])) := by
        unfold F_spec_l04Smooth T_spec_l04Smooth
        rcases spec_Smooth_loop h4.1 h4.2 k2 with ⟨c, l⟩ | ⟨c, l⟩
        · obtain ⟨g1, g2, g3, g4, g5, g6⟩ := spec_l04Smooth_l3_of1 rfl l
          rw [g1, g2, g3, g6, c, wins_length]; rfl
        · obtain ⟨g1, g2⟩ := spec_l04Smooth_l3_of0 rfl l
          rw [g1, g2, c]; rfl
      obtain ⟨p5, q5, r5, s5⟩ := spec_l04Smooth_of key
      simp only [p5, q5, r5, s5, bnot_true, br_false, if_true, grd_true, e]
theorem plain_FnExactSmoothWinds {xs : List Nat} {w : Int} (hx : ∀ x ∈ xs, canW .f32 x) (mx : xs.length ≤ maxLen) (hw : bdI .i64 w) : F_laws_FnExactSmoothWinds xs.length xs w = some true := by
  have e0 : ltI 1048576 (Int.ofNat xs.length) = decide (1048576 < xs.length) := ltN 1048576 _
  unfold F_laws_FnExactSmoothWinds T_laws_FnExactSmoothWinds
  rw [e0]
  by_cases h : 1048576 < xs.length
  · rw [decide_eq_true h]; rfl
  · rw [decide_eq_false h]
    obtain ⟨p0, q0, r0⟩ := laws_toFloat32S_of (laws_toFloat32S_eq (xs := xs) (by omega))
    obtain ⟨p1, q1, r1, s1⟩ := spec_SmoothWinds_of (spec_SmoothWinds_eq (xs := xs) w (by omega))
    obtain ⟨p2, q2, r2, s2⟩ := impl_SmoothWinds_of (impl_SmoothWinds_eq (xs := xs) w (by omega))
    obtain ⟨p3, q3⟩ := laws_eqFloat32S_of (laws_eqFloat32S_refl (xs := xs) (by omega))
    have hlen := smoothR_length xs w
    have hle := smoothR_le xs w
    generalize smoothR xs w = R at *
    obtain ⟨n, ok, ys⟩ := R
    simp only at hlen hle
    obtain ⟨p4, q4⟩ := laws_eqFloat32S_of (laws_eqFloat32S_refl (xs := ys) (by omega))
    obtain ⟨a1, a2, _⟩ := laws_FnExactSmoothWinds__markFloat32S_l2_of0 rfl (mark_loop (L := L_laws_FnExactSmoothWinds__markFloat32S_l2 xs.length) (k0 := 1) (ys := xs) rfl (by omega) (by omega) (by omega) (fun n k i b => by rw [L_laws_FnExactSmoothWinds__markFloat32S_l2_succ]; rfl))
    obtain ⟨b1, b2, _, _, b5⟩ := laws_FnExactSmoothWinds__markFloat32S_l2_2_of0 rfl (mark_loop (L := L_laws_FnExactSmoothWinds__markFloat32S_l2_2 ys.length) (k0 := 1) (ys := ys) rfl (by omega) (by omega) (by omega) (fun n k i b => by rw [L_laws_FnExactSmoothWinds__markFloat32S_l2_2_succ]; rfl))
    obtain ⟨c1, c2⟩ := laws_heldFloat32S_of (laws_heldFloat32S_eq (k0 := 1) (n := ys.length) (by omega) (by omega) (by omega))
    have hm : pF (marks 1 ys.length) 0 (muN ys.length 1) = marks 1 ys.length := by
      have := pF_all (marks 1 ys.length); rw [marks_length] at this; exact this
    have l1 : ltI (1 + (xs.length : Int)) 0 = false := ltI_f (by omega)
    have l2 : ltI (1 + (ys.length : Int)) 0 = false := ltI_f (by omega)
    subst hlen
    simp only [pF_all, p0, q0, r0, p1, q1, r1, s1, p2, q2, r2, s2, p3, q3, p4, q4, a1, a2, b1, b2, b5, hm, c1, c2, l1, l2, grd_true, br_false, bnot_true, beqB_self, neI_self]
end Go.Rf
