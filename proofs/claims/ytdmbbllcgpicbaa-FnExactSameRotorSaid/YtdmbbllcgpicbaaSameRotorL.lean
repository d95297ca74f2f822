/-
  Plain laws.
-/
import Derived.Test.YtdmbbllcgpicbaaSameRotorP
set_option linter.unusedVariables false
set_option linter.unusedSimpArgs false
set_option maxRecDepth 100000
set_option maxHeartbeats 4000000
namespace Go.Rf
open Go
theorem laws_sameFloat_refl (x : Nat) : F_laws_sameFloat x x = some true := by
  unfold F_laws_sameFloat T_laws_sameFloat
  simp only [neq_self]
  cases hn : nanB .f64 x with
  | true => rfl
  | false =>
    have he : fcmp .eql .f64 x x = true := by rw [(fcmp_num .f64 hn hn).1]; simp
    simp only [br_if, Bool.false_eq_true, if_false, he, beqB, BEq.rfl]
    split <;> rfl
theorem laws_szFloat32S_eq (n : Nat) (xs : List Nat) (left : Int) : ∃ r, F_laws_szFloat32S n xs left = some r ∧ (0 ≤ left → left ≤ 1048576 → n ≤ 9223372036854775807 → (0 ≤ r → r = left - n ∧ (n : Int) ≤ left) ∧ r ≤ 1048576) := by
  unfold F_laws_szFloat32S T_laws_szFloat32S
  by_cases h : subI .i64 left (Int.ofNat n) < 0
  · rw [ltI_t h]
    exact ⟨_, rfl, fun _ _ _ => ⟨fun q => by simp at q, by decide⟩⟩
  · rw [ltI_f h]
    refine ⟨_, rfl, fun h1 h2 h3 => ?_⟩
    have e : subI .i64 left (Int.ofNat n) = left - n := wrap64 (by simp; omega) (by simp; omega)
    rw [e] at h ⊢
    exact ⟨fun _ => ⟨rfl, by omega⟩, by omega⟩
theorem laws_toFloat32S_eq {xs : List Nat} (hl : xs.length ≤ 1099511627776) : F_laws_toFloat32S xs.length xs = some (xs.length, xs) := by
  have hf := folds (L := L_laws_toFloat32S_l3 xs.length xs.length xs) (len := xs.length) (fun i s => s.set i (xs.getD i 0)) (e := fun s => (Int.ofNat xs.length, false, s))
    (fun n i s hi => by rw [L_laws_toFloat32S_l3_succ]; unfold T_laws_toFloat32S_l3; rw [ltN_t hi, okIx_t hi, ix1, addI1 (by omega)]; rfl)
    (fun n s => by rw [L_laws_toFloat32S_l3_succ]; unfold T_laws_toFloat32S_l3; rw [ltN_f (Nat.le_refl _)]; rfl) xs.length 0 big (List.replicate xs.length 0) (by omega) (big_gt (by omega))
  rw [copy_fold xs _ _ _ (by omega) (by simp)] at hf
  simp only [List.take_zero, List.drop_zero, List.nil_append] at hf
  obtain ⟨g1, _, _, g2⟩ := laws_toFloat32S_l3_of0 rfl hf
  have e : rF (muN (toN (Int.ofNat xs.length)) 1) = List.replicate xs.length 0 := by simp [rF, muN, toN]
  have ho : okMk (Int.ofNat xs.length) (Int.ofNat xs.length) 4 = true := decide_eq_true ⟨rfl, by simp, by simp; omega, by decide⟩
  unfold F_laws_toFloat32S T_laws_toFloat32S
  rw [e, ho, toN_nat]
  show grd (laws_toFloat32S_l3_p xs.length xs.length xs (Int.ofNat 0) (List.replicate xs.length 0)) (some (_, laws_toFloat32S_l3_a0_2 xs.length xs.length xs (Int.ofNat 0) (List.replicate xs.length 0))) = _
  rw [g1, g2]; rfl
theorem laws_eqFloat32S_refl {xs : List Nat} (hl : xs.length < 281474976710656) : F_laws_eqFloat32S xs.length xs xs.length xs = some true := by
  have hn : neI (Int.ofNat xs.length) (Int.ofNat xs.length) = false := by simp [neI]
  unfold F_laws_eqFloat32S T_laws_eqFloat32S
  rw [hn]
  rcases scan_all (L := L_laws_eqFloat32S_l4 xs.length xs.length xs xs) xs (fun _ => true) (g := fun i => ()) (e := (Int.ofNat xs.length, false))
    (fun n i hi => by
      obtain ⟨h1, h2⟩ := laws_sameFloat_of (laws_sameFloat_refl (fcvV FloatKind.f32 FloatKind.f64 (gF xs i)))
      rw [L_laws_eqFloat32S_l4_succ]; unfold T_laws_eqFloat32S_l4; rw [ltN_t hi, okIx_t hi, ix1, addI1 (by omega), h1, h2]
      rfl)
    (fun n => by rw [L_laws_eqFloat32S_l4_succ]; unfold T_laws_eqFloat32S_l4; rw [ltN_f (Nat.le_refl _)]; rfl) hl with ⟨h1, h2⟩ | ⟨j, h2, h3, h4⟩
  · obtain ⟨g1, g2, _⟩ := laws_eqFloat32S_l4_of1 rfl h2
    rw [g1, g2]; rfl
  · simp at h3
theorem spec_l01Bits_eq {x : Nat} (h : canW .f32 x) : F_spec_l01Bits x = some (x : Int) := by
  obtain ⟨h1, h2⟩ := h
  unfold F_spec_l01Bits T_spec_l01Bits
  rw [neq_self]
  cases hn : nanB .f32 x with
  | true =>
    rw [cn_of_nan hn] at h2
    subst h2
    rfl
  | false =>
    have h32 : (2 : Nat) ^ FloatKind.f32.format.width = 4294967296 := by decide
    rw [h32] at h1
    have e : cvI .i64 (Int.ofNat x) = (x : Int) := wrap64 (by simp) (by simp; omega)
    simp only [br_if, nanQ, hn, bnot, grd_true, e]
    rfl
theorem spec_l01Same_eq {x y : Nat} (hx : canW .f32 x) (hy : canW .f32 y) : F_spec_l01Same x y = some (decide (x = y)) := by
  obtain ⟨h1, h2⟩ := spec_l01Bits_of (spec_l01Bits_eq hx)
  obtain ⟨h3, h4⟩ := spec_l01Bits_of (spec_l01Bits_eq hy)
  unfold F_spec_l01Same T_spec_l01Same
  rw [h1, h2, h3, h4]
  simp only [grd_true, eqI]
  by_cases h : x = y
  · subst h; simp
  · rw [decide_eq_false h, decide_eq_false (by omega)]
theorem math_Signbit_eq {x : Nat} (h : nanB .f32 x = false) : F_math_Signbit (fcvV .f32 .f64 x) = some (ngB Ieee.single x) := by
  have e : ltI (cvI IntKind.i64 (Int.ofNat (fcvV .f32 .f64 x))) 0 = ngB Ieee.single x := up_sign h
  unfold F_math_Signbit T_math_Signbit
  rw [e]
  simp only [nanQ, bnot, up_nan h, Bool.not_false, grd_true]
theorem impl_SameNumber_eq {x y : Nat} (hx : canW .f32 x) (hy : canW .f32 y) : F_impl_SameNumber x y = some (decide (x = y)) := by
  unfold F_impl_SameNumber T_impl_SameNumber
  rw [neq_self, neq_self]
  cases nx : nanB .f32 x
  · cases ny : nanB .f32 y
    · obtain ⟨g1, g2⟩ := math_Signbit_of (math_Signbit_eq nx)
      obtain ⟨g3, g4⟩ := math_Signbit_of (math_Signbit_eq ny)
      rw [g1, g2, g3, g4, (fcmp_num .f32 nx ny).1]
      have h32 : (2 : Nat) ^ FloatKind.f32.format.width = 2 ^ 32 := by decide
      have key := same_word (x := x) (y := y) (by rw [← h32]; exact hx.1) (by rw [← h32]; exact hy.1)
      show (br (decide (srung Ieee.single x = srung Ieee.single y)) (some (ngB Ieee.single x == ngB Ieee.single y)) (some false)) = _
      by_cases h : srung Ieee.single x = srung Ieee.single y
      · rw [decide_eq_true h]
        show some (ngB Ieee.single x == ngB Ieee.single y) = _
        by_cases h' : ngB Ieee.single x = ngB Ieee.single y
        · rw [decide_eq_true (key.1 ⟨h, h'⟩), h']; simp
        · rw [decide_eq_false (fun e => h' (key.2 e).2)]
          simpa using h'
      · rw [decide_eq_false h, decide_eq_false (fun e => h (key.2 e).1)]
        rfl
    · rw [decide_eq_false (fun e => by subst e; rw [nx] at ny; cases ny)]
      rfl
  · cases ny : nanB .f32 y
    · rw [decide_eq_false (fun e => by subst e; rw [nx] at ny; cases ny)]
      rfl
    · have e1 : x = qn .f32 := by rw [← cn_of_nan nx]; exact hx.2.symm
      have e2 : y = qn .f32 := by rw [← cn_of_nan ny]; exact hy.2.symm
      rw [e1, e2]; simp [br]
theorem beqB_self (b : Bool) : beqB b b = true := by cases b <;> rfl
theorem neI_self (i : Int) : neI i i = false := by simp [neI]
theorem bnot_true : bnot true = false := rfl
theorem get_mem {xs : List Nat} {i : Nat} (h : i < xs.length) : xs.getD i 0 ∈ xs := by
  rw [List.getD_eq_getElem?_getD, List.getElem?_eq_getElem h]; exact List.getElem_mem _
theorem zip_getD {xs ys : List Nat} (h : ys.length = xs.length) : xs = ys ↔ ∀ j, j < xs.length → xs.getD j 0 = ys.getD j 0 := by
  constructor
  · rintro rfl _ _; rfl
  · intro k
    refine List.ext_getElem h.symm fun j h1 h2 => ?_
    have := k j h1
    simpa [List.getD_eq_getElem?_getD, h1, h2] using this
theorem spec_l01SameAll_eq {xs ys : List Nat} (hx : ∀ x ∈ xs, canW .f32 x) (hy : ∀ x ∈ ys, canW .f32 x) (hl : xs.length < 281474976710656) : F_spec_l01SameAll xs.length xs ys.length ys = some (decide (xs = ys)) := by
  unfold F_spec_l01SameAll T_spec_l01SameAll
  by_cases h : ys.length = xs.length
  · have e3 : neI (Int.ofNat xs.length) (Int.ofNat ys.length) = false := by simp [neI, h]
    rw [e3, br_false]
    rcases scan (L := L_spec_l01SameAll_l4 xs.length ys.length xs ys) (len := xs.length) (fun j => decide (xs.getD j 0 = ys.getD j 0)) (g := fun _ => ()) (e := (Int.ofNat xs.length, false))
      (fun n i hi => by
        obtain ⟨g1, g2⟩ := spec_l01Same_of (spec_l01Same_eq (hx _ (get_mem hi)) (hy _ (get_mem (show i < ys.length by omega))))
        rw [L_spec_l01SameAll_l4_succ]; unfold T_spec_l01SameAll_l4; rw [ltN_t hi, okIx_t hi, ix1, addI1 (by omega), okIx_t (show i < ys.length by omega)]
        simp only [br_true, grd_true, gF, g1, g2]
        cases decide (xs.getD i 0 = ys.getD i 0) <;> rfl)
      (fun n => by rw [L_spec_l01SameAll_l4_succ]; unfold T_spec_l01SameAll_l4; rw [ltN_f (Nat.le_refl _)]; rfl) xs.length 0 big (by omega) (big_gt hl) with ⟨k1, k2⟩ | ⟨j, k1, k2, k3, k4⟩
    · obtain ⟨g1, g2, _⟩ := spec_l01SameAll_l4_of1 rfl k2
      rw [decide_eq_true ((zip_getD h).2 fun j hj => of_decide_eq_true (k1 j (Nat.zero_le _) hj))]
      show grd (spec_l01SameAll_l4_p xs.length ys.length xs ys (Int.ofNat 0)) (br (spec_l01SameAll_l4_w0 xs.length ys.length xs ys (Int.ofNat 0)) _ _) = _
      rw [g1, g2]; rfl
    · obtain ⟨g1, g2⟩ := spec_l01SameAll_l4_of0 rfl k4
      rw [decide_eq_false fun e => of_decide_eq_false k3 ((zip_getD h).1 e j k2)]
      show grd (spec_l01SameAll_l4_p xs.length ys.length xs ys (Int.ofNat 0)) (br (spec_l01SameAll_l4_w0 xs.length ys.length xs ys (Int.ofNat 0)) _ _) = _
      rw [g1, g2]; rfl
  · have e3 : neI (Int.ofNat xs.length) (Int.ofNat ys.length) = true := by simp [neI]; omega
    rw [e3, decide_eq_false (by rintro rfl; exact h rfl)]; rfl
theorem slices_EqualFunc_eq {xs ys : List Nat} (hx : ∀ x ∈ xs, canW .f32 x) (hy : ∀ x ∈ ys, canW .f32 x) (hl : xs.length < 281474976710656) : F_slices_EqualFunc_sf32_sf32_f32_f32_SameNumber xs.length xs ys.length ys = some (decide (xs = ys)) := by
  unfold F_slices_EqualFunc_sf32_sf32_f32_f32_SameNumber T_slices_EqualFunc_sf32_sf32_f32_f32_SameNumber
  by_cases h : ys.length = xs.length
  · have e3 : neI (Int.ofNat xs.length) (Int.ofNat ys.length) = false := by simp [neI, h]
    rw [e3, br_false]
    rcases scan (L := L_slices_EqualFunc_sf32_sf32_f32_f32_SameNumber_l4 ys.length xs.length (Int.ofNat xs.length) xs ys) (len := xs.length) (fun j => decide (xs.getD j 0 = ys.getD j 0)) (g := fun _ => ()) (e := (Int.ofNat xs.length, false))
      (fun n i hi => by
        obtain ⟨g1, g2⟩ := impl_SameNumber_of (impl_SameNumber_eq (hx _ (get_mem hi)) (hy _ (get_mem (show i < ys.length by omega))))
        rw [L_slices_EqualFunc_sf32_sf32_f32_f32_SameNumber_l4_succ]; unfold T_slices_EqualFunc_sf32_sf32_f32_f32_SameNumber_l4; rw [ltN_t hi, okIx_t hi, ix1, addI1 (by omega), okIx_t (show i < ys.length by omega)]
        simp only [br_true, grd_true, gF, g1, g2]
        cases decide (xs.getD i 0 = ys.getD i 0) <;> rfl)
      (fun n => by rw [L_slices_EqualFunc_sf32_sf32_f32_f32_SameNumber_l4_succ]; unfold T_slices_EqualFunc_sf32_sf32_f32_f32_SameNumber_l4; rw [ltN_f (Nat.le_refl _)]; rfl) xs.length 0 big (by omega) (big_gt hl) with ⟨k1, k2⟩ | ⟨j, k1, k2, k3, k4⟩
    · obtain ⟨g1, g2, _⟩ := slices_EqualFunc_sf32_sf32_f32_f32_SameNumber_l4_of1 rfl k2
      rw [decide_eq_true ((zip_getD h).2 fun j hj => of_decide_eq_true (k1 j (Nat.zero_le _) hj))]
      show grd (slices_EqualFunc_sf32_sf32_f32_f32_SameNumber_l4_p ys.length xs.length (Int.ofNat xs.length) xs ys (Int.ofNat 0)) (br (slices_EqualFunc_sf32_sf32_f32_f32_SameNumber_l4_w0 ys.length xs.length (Int.ofNat xs.length) xs ys (Int.ofNat 0)) _ _) = _
      rw [g1, g2]; rfl
    · obtain ⟨g1, g2⟩ := slices_EqualFunc_sf32_sf32_f32_f32_SameNumber_l4_of0 rfl k4
      rw [decide_eq_false fun e => of_decide_eq_false k3 ((zip_getD h).1 e j k2)]
      show grd (slices_EqualFunc_sf32_sf32_f32_f32_SameNumber_l4_p ys.length xs.length (Int.ofNat xs.length) xs ys (Int.ofNat 0)) (br (slices_EqualFunc_sf32_sf32_f32_f32_SameNumber_l4_w0 ys.length xs.length (Int.ofNat xs.length) xs ys (Int.ofNat 0)) _ _) = _
      rw [g1, g2]; rfl
  · have e3 : neI (Int.ofNat xs.length) (Int.ofNat ys.length) = true := by simp [neI]; omega
    rw [e3, decide_eq_false (by rintro rfl; exact h rfl)]; rfl
theorem impl_sameNumbers_eq {xs ys : List Nat} (hx : ∀ x ∈ xs, canW .f32 x) (hy : ∀ x ∈ ys, canW .f32 x) (hl : xs.length < 281474976710656) : F_impl_sameNumbers xs.length xs ys.length ys = some (decide (xs = ys)) := by
  obtain ⟨p1, q1⟩ := slices_EqualFunc_sf32_sf32_f32_f32_SameNumber_of (slices_EqualFunc_eq hx hy hl)
  unfold F_impl_sameNumbers T_impl_sameNumbers
  simp only [pF_all, p1, q1, grd_true]
theorem take_succ_getD {ys : List Nat} {i : Nat} (h : i < ys.length) : ys.take i ++ [ys.getD i 0] = ys.take (i + 1) := by
  rw [List.take_succ_eq_append_getElem h]; simp [List.getD_eq_getElem?_getD, h]
theorem runs {ρ : Type} {L : Nat → Int → Option ρ} {len : Nat} {e : ρ} (hs : ∀ n i, i < len → L (n + 1) (Int.ofNat i) = L n (Int.ofNat (i + 1))) (he : ∀ n, L (n + 1) (Int.ofNat len) = some e) (hl : len < 281474976710656) : L big 0 = some e := by
  have := folds (L := fun n i (_ : Unit) => L n i) (len := len) (fun _ _ => ()) (e := fun _ => e) (fun n i _ hi => hs n i hi) (fun n _ => he n) len 0 big () (by omega) (big_gt hl)
  exact this
theorem ix3 (i : Nat) : ixO 0 (Int.ofNat i) 3 = i * 3 := by simp [ixO]
theorem put1 {xs zs : List Nat} (hz : zs.length = xs.length) {j : Nat} (h : j < xs.length) : (xs.take j ++ zs.drop j).set j (xs.getD j 0) = xs.take (j + 1) ++ zs.drop (j + 1) := by
  have h1 : (xs.take j).length = j := by simp; omega
  have h2 : zs.drop j = zs[j] :: zs.drop (j + 1) := List.drop_eq_getElem_cons (by omega)
  rw [← take_succ_getD h, h2, List.set_append_right j _ (by omega), h1, Nat.sub_self, List.set_cons_zero, List.append_assoc]
  rfl
theorem put3 {xs zs : List Nat} {n i : Nat} (hx : xs.length = n * 3) (hz : zs.length = xs.length) (h : i < n) :
    ((((xs.take (i * 3) ++ zs.drop (i * 3)).set (i * 3) (xs.getD (i * 3) 0)).set (i * 3).succ (xs.getD (i * 3).succ 0)).set (i * 3).succ.succ (xs.getD (i * 3).succ.succ 0)) = xs.take ((i + 1) * 3) ++ zs.drop ((i + 1) * 3) := by
  rw [put1 hz (by omega), put1 hz (j := (i * 3).succ) (by omega), put1 hz (j := (i * 3).succ.succ) (by omega)]
  simp only [Nat.succ_eq_add_one, Nat.add_mul, Nat.one_mul]
theorem okMk_t {n b : Nat} (h : n ≤ 1099511627776) (hb : b ≤ 64) : okMk (Int.ofNat n) (Int.ofNat n) b = true := decide_eq_true ⟨rfl, by simp, by simp; omega, hb⟩
theorem laws_toStation_p_eq (a b c : Nat) : laws_toStation_p a b c = true := rfl
theorem laws_toStationS_eq {xs : List Nat} {n : Nat} (hx : xs.length = n * 3) (hl : n ≤ 1099511627776) : F_laws_toStationS n xs = some (n, xs) := by
  have hz : (rF (muN (toN (Int.ofNat n)) 3)).length = xs.length := by simp [rF, muN, hx]
  have hf := runs (L := fun m i => L_laws_toStationS_l3 n n xs m i (xs.take (i.toNat * 3) ++ (rF (muN (toN (Int.ofNat n)) 3)).drop (i.toNat * 3))) (len := n) (e := (Int.ofNat n, false, xs))
    (fun m i hi => by
      show L_laws_toStationS_l3 n n xs _ _ (xs.take (i * 3) ++ (rF (muN (toN (Int.ofNat n)) 3)).drop (i * 3)) = L_laws_toStationS_l3 n n xs _ _ (xs.take ((i + 1) * 3) ++ (rF (muN (toN (Int.ofNat n)) 3)).drop ((i + 1) * 3))
      rw [← put3 hx hz hi, L_laws_toStationS_l3_succ]; unfold T_laws_toStationS_l3
      rw [ltN_t hi, okIx_t hi, ix3, addI1 (by omega), laws_toStation_p_eq]; rfl)
    (fun m => by
      show L_laws_toStationS_l3 n n xs _ _ (xs.take (n * 3) ++ (rF (muN (toN (Int.ofNat n)) 3)).drop (n * 3)) = _
      rw [L_laws_toStationS_l3_succ]; unfold T_laws_toStationS_l3; rw [ltN_f (Nat.le_refl _), br_false, List.take_of_length_le (by omega), List.drop_of_length_le (by omega), List.append_nil]) (by omega)
  obtain ⟨g1, _, _, g2⟩ := laws_toStationS_l3_of0 rfl hf
  have e0 : xs.take (Int.toNat 0 * 3) ++ (rF (muN (toN (Int.ofNat n)) 3)).drop (Int.toNat 0 * 3) = rF (muN (toN (Int.ofNat n)) 3) := by simp
  rw [e0] at g1 g2
  unfold F_laws_toStationS T_laws_toStationS
  rw [okMk_t hl (by omega)]
  show grd (laws_toStationS_l3_p n n xs 0 (rF (muN (toN (Int.ofNat n)) 3))) (some (n, laws_toStationS_l3_a0_2 n n xs 0 (rF (muN (toN (Int.ofNat n)) 3)))) = _
  rw [g1, g2]; rfl
theorem laws_eqStation_refl (a b c : Nat) : F_laws_eqStation a b c a b c = some true := by
  obtain ⟨p1, q1⟩ := laws_sameFloat_of (laws_sameFloat_refl (fcvV .f32 .f64 a))
  obtain ⟨p2, q2⟩ := laws_sameFloat_of (laws_sameFloat_refl (fcvV .f32 .f64 b))
  obtain ⟨p3, q3⟩ := laws_sameFloat_of (laws_sameFloat_refl (fcvV .f32 .f64 c))
  unfold F_laws_eqStation T_laws_eqStation
  rw [p1, q1, p2, q2, p3, q3]; rfl
theorem laws_eqStationS_refl {xs : List Nat} {n : Nat} (hl : n < 281474976710656) : F_laws_eqStationS n xs n xs = some true := by
  unfold F_laws_eqStationS T_laws_eqStationS
  rw [neI_self]
  rcases scan (L := L_laws_eqStationS_l4 n n xs xs) (len := n) (fun _ => true) (g := fun i => ()) (e := (Int.ofNat n, false))
    (fun m i hi => by
      rw [L_laws_eqStationS_l4_succ]; unfold T_laws_eqStationS_l4
      obtain ⟨h1, h2⟩ := laws_eqStation_of (laws_eqStation_refl (gF xs (ixO 0 (Int.ofNat i) 3)) (gF xs (Nat.succ (ixO 0 (Int.ofNat i) 3))) (gF xs (Nat.succ (Nat.succ (ixO 0 (Int.ofNat i) 3)))))
      rw [ltN_t hi, okIx_t hi, addI1 (by omega), h1, h2]; rfl)
    (fun m => by rw [L_laws_eqStationS_l4_succ]; unfold T_laws_eqStationS_l4; rw [ltN_f (Nat.le_refl _)]; rfl) n 0 big (by omega) (big_gt hl) with ⟨h1, h2⟩ | ⟨j, _, h2, h3, h4⟩
  · obtain ⟨g1, g2, _⟩ := laws_eqStationS_l4_of1 rfl h2
    show grd (laws_eqStationS_l4_p n n xs xs (Int.ofNat 0)) (br (laws_eqStationS_l4_w0 n n xs xs (Int.ofNat 0)) _ _) = _
    rw [g1, g2]; rfl
  · cases h3
theorem laws_szStationS_eq (n : Nat) (xs : List Nat) (left : Int) : ∃ r, F_laws_szStationS n xs left = some r ∧ (0 ≤ left → left ≤ 1048576 → n ≤ 9223372036854775807 → (0 ≤ r → r = left - n ∧ (n : Int) ≤ left) ∧ r ≤ 1048576) := by
  unfold F_laws_szStationS T_laws_szStationS
  by_cases h : subI .i64 left (Int.ofNat n) < 0
  · rw [ltI_t h]
    exact ⟨_, rfl, fun _ _ _ => ⟨fun q => by simp at q, by decide⟩⟩
  · rw [ltI_f h]
    refine ⟨_, rfl, fun h1 h2 h3 => ?_⟩
    have e : subI .i64 left (Int.ofNat n) = left - n := wrap64 (by simp; omega) (by simp; omega)
    rw [e] at h ⊢
    exact ⟨fun _ => ⟨rfl, by omega⟩, by omega⟩
theorem laws_szProfile_eq {as ls ds : List Nat} {left : Int} (ha : as.length ≤ maxLen) (hl : ls.length ≤ maxLen) (hd : ds.length ≤ maxLen) (h0 : 0 ≤ left) (h1 : left ≤ 1048576) :
    ∃ r, F_laws_szProfile as.length as ls.length ls ds.length ds left = some r ∧ (0 ≤ r → as.length + ls.length + ds.length ≤ 1048576) ∧ r ≤ 1048576 := by
  have hm : maxLen = 9223372036854775807 := by decide
  rw [hm] at ha hl hd
  obtain ⟨r1, h2, k1⟩ := laws_szFloat32S_eq as.length as left
  obtain ⟨p1, q1⟩ := laws_szFloat32S_of h2
  obtain ⟨k1, k1'⟩ := k1 h0 h1 ha
  obtain ⟨r2, h3, k2⟩ := laws_szFloat32S_eq ls.length ls r1
  obtain ⟨p2, q2⟩ := laws_szFloat32S_of h3
  obtain ⟨r3, h4, k3⟩ := laws_szFloat32S_eq ds.length ds r2
  obtain ⟨p3, q3⟩ := laws_szFloat32S_of h4
  unfold F_laws_szProfile T_laws_szProfile
  simp only [pF_all, p1, q1, grd_true, p2, q2, p3, q3]
  by_cases c1 : r1 < 0
  · rw [ltI_t c1]
    exact ⟨_, rfl, fun h => by simp at h, by decide⟩
  · rw [ltI_f c1]
    obtain ⟨e1, e2⟩ := k1 (by omega)
    obtain ⟨k2, k2'⟩ := k2 (by omega) (by omega) hl
    by_cases c2 : r2 < 0
    · rw [ltI_t c2]
      exact ⟨_, rfl, fun h => by simp at h, by decide⟩
    · rw [ltI_f c2]
      obtain ⟨e3, e4⟩ := k2 (by omega)
      obtain ⟨k3, k3'⟩ := k3 (by omega) (by omega) hd
      by_cases c3 : r3 < 0
      · rw [ltI_t c3]
        exact ⟨_, rfl, fun h => by simp at h, by decide⟩
      · rw [ltI_f c3]
        obtain ⟨e5, e6⟩ := k3 (by omega)
        exact ⟨_, rfl, fun h => by omega, by omega⟩
theorem laws_toProfile_eq {as ls ds : List Nat} (ha : as.length ≤ 1099511627776) (hl : ls.length ≤ 1099511627776) (hd : ds.length ≤ 1099511627776) : F_laws_toProfile as.length as ls.length ls ds.length ds = some (as.length, ls.length, ds.length, as, ls, ds) := by
  obtain ⟨p1, q1, r1⟩ := laws_toFloat32S_of (laws_toFloat32S_eq ha)
  obtain ⟨p2, q2, r2⟩ := laws_toFloat32S_of (laws_toFloat32S_eq hl)
  obtain ⟨p3, q3, r3⟩ := laws_toFloat32S_of (laws_toFloat32S_eq hd)
  unfold F_laws_toProfile T_laws_toProfile
  simp only [pF_all, p1, q1, r1, p2, q2, r2, p3, q3, r3, grd_true]
theorem laws_eqProfile_refl {as ls ds : List Nat} (ha : as.length < 281474976710656) (hl : ls.length < 281474976710656) (hd : ds.length < 281474976710656) : F_laws_eqProfile as.length as ls.length ls ds.length ds as.length as ls.length ls ds.length ds = some true := by
  obtain ⟨p1, q1⟩ := laws_eqFloat32S_of (laws_eqFloat32S_refl ha)
  obtain ⟨p2, q2⟩ := laws_eqFloat32S_of (laws_eqFloat32S_refl hl)
  obtain ⟨p3, q3⟩ := laws_eqFloat32S_of (laws_eqFloat32S_refl hd)
  unfold F_laws_eqProfile T_laws_eqProfile
  simp only [pF_all, p1, q1, p2, q2, p3, q3, grd_true]
  rfl
theorem rotor_law {as ls ds st : List Nat} {n : Nat} {count : Int} {hub tip : Nat} (ma : as.length ≤ maxLen) (ml : ls.length ≤ maxLen) (md : ds.length ≤ maxLen) (z : st.length = n * 3) (mn : n ≤ maxLen) {left : Int} (h0 : 0 ≤ left) (h1 : left ≤ 1048576) :
    ∃ r, laws_szRotor_p as.length as ls.length ls ds.length ds n st count hub tip left = true ∧ laws_szRotor_v0 as.length as ls.length ls ds.length ds n st count hub tip left = r ∧ r ≤ 1048576 ∧
    (r < 0 ∨ (ltI r 0 = false ∧ as.length + ls.length + ds.length + n ≤ 2097152 ∧ laws_toRotor_p as.length as ls.length ls ds.length ds n st count hub tip = true ∧ laws_toRotor_v0 as.length as ls.length ls ds.length ds n st count hub tip = as.length ∧
      laws_toRotor_v1 as.length as ls.length ls ds.length ds n st count hub tip = ls.length ∧ laws_toRotor_v2 as.length as ls.length ls ds.length ds n st count hub tip = ds.length ∧ laws_toRotor_v3 as.length as ls.length ls ds.length ds n st count hub tip = n ∧
      laws_toRotor_v4 as.length as ls.length ls ds.length ds n st count hub tip = as ∧ laws_toRotor_v5 as.length as ls.length ls ds.length ds n st count hub tip = ls ∧ laws_toRotor_v6 as.length as ls.length ls ds.length ds n st count hub tip = ds ∧ laws_toRotor_v7 as.length as ls.length ls ds.length ds n st count hub tip = st ∧
      laws_eqRotor_p as.length as ls.length ls ds.length ds n st count hub tip as.length as ls.length ls ds.length ds n st count hub tip = true ∧ laws_eqRotor_v0 as.length as ls.length ls ds.length ds n st count hub tip as.length as ls.length ls ds.length ds n st count hub tip = true)) := by
  have hm : maxLen = 9223372036854775807 := by decide
  obtain ⟨r1, h2, k1, k1'⟩ := laws_szProfile_eq ma ml md h0 h1
  obtain ⟨p1, q1⟩ := laws_szProfile_of h2
  obtain ⟨r2, h3, k2⟩ := laws_szStationS_eq n st r1
  obtain ⟨p2, q2⟩ := laws_szStationS_of h3
  have hst : pF st 0 (muN n 3) = st := pF_all3 z
  have key : F_laws_szRotor as.length as ls.length ls ds.length ds n st count hub tip left = some (if r1 < 0 then -1 else if r2 < 0 then -1 else r2) := by
    unfold F_laws_szRotor T_laws_szRotor
    simp only [pF_all, hst, p1, q1, grd_true, p2, q2]
    by_cases c1 : r1 < 0
    · rw [ltI_t c1, if_pos c1]; rfl
    · rw [ltI_f c1, if_neg c1]
      by_cases c2 : r2 < 0
      · rw [ltI_t c2, if_pos c2]; rfl
      · rw [ltI_f c2, if_neg c2]; rfl
  obtain ⟨p0, q0⟩ := laws_szRotor_of key
  refine ⟨_, p0, q0, ?_, ?_⟩
  · by_cases c1 : r1 < 0
    · rw [if_pos c1]; decide
    · rw [if_neg c1]
      by_cases c2 : r2 < 0
      · rw [if_pos c2]; decide
      · rw [if_neg c2]
        exact (k2 (by omega) (by omega) (by rw [hm] at mn; exact mn)).2
  · by_cases c1 : r1 < 0
    · rw [if_pos c1]; exact .inl (by decide)
    · rw [if_neg c1]
      by_cases c2 : r2 < 0
      · rw [if_pos c2]; exact .inl (by decide)
      · rw [if_neg c2]
        have l1 := k1 (by omega)
        obtain ⟨k2, _⟩ := k2 (by omega) (by omega) (by rw [hm] at mn; exact mn)
        obtain ⟨_, l2⟩ := k2 (by omega)
        obtain ⟨p3, a3, b3, c3, d3, e3, f3⟩ := laws_toProfile_of (laws_toProfile_eq (as := as) (ls := ls) (ds := ds) (by omega) (by omega) (by omega))
        obtain ⟨p4, a4, b4⟩ := laws_toStationS_of (laws_toStationS_eq z (by omega))
        have kt : F_laws_toRotor as.length as ls.length ls ds.length ds n st count hub tip = some (as.length, ls.length, ds.length, n, as, ls, ds, st) := by
          unfold F_laws_toRotor T_laws_toRotor
          simp only [pF_all, hst, p3, a3, b3, c3, d3, e3, f3, p4, a4, b4, grd_true]
        obtain ⟨p5, q5⟩ := laws_eqProfile_of (laws_eqProfile_refl (as := as) (ls := ls) (ds := ds) (by omega) (by omega) (by omega))
        obtain ⟨p6, q6⟩ := laws_eqStationS_of (laws_eqStationS_refl (xs := st) (n := n) (by omega))
        obtain ⟨p7, q7⟩ := laws_sameFloat_of (laws_sameFloat_refl (fcvV .f32 .f64 hub))
        obtain ⟨p8, q8⟩ := laws_sameFloat_of (laws_sameFloat_refl (fcvV .f32 .f64 tip))
        have ke : F_laws_eqRotor as.length as ls.length ls ds.length ds n st count hub tip as.length as ls.length ls ds.length ds n st count hub tip = some true := by
          unfold F_laws_eqRotor T_laws_eqRotor
          simp only [pF_all, hst, p5, q5, p6, q6, p7, q7, p8, q8, grd_true, neI_self, bnot_true, br_false]
        obtain ⟨t0, t1, t2, t3, t4, t5, t6, t7, t8⟩ := laws_toRotor_of kt
        obtain ⟨e0, e1⟩ := laws_eqRotor_of ke
        exact .inr ⟨ltI_f c2, by omega, t0, t1, t2, t3, t4, t5, t6, t7, t8, e0, e1⟩
theorem range_all {n : Nat} {p : Nat → Bool} : (List.range n).all p = true ↔ ∀ j, j < n → p j = true := by simp [List.all_eq_true]
theorem neN (m n : Nat) : neI (Int.ofNat m) (Int.ofNat n) = !decide (m = n) := by
  unfold neI
  by_cases h : m = n
  · subst h; simp
  · rw [decide_eq_false h]; simp; omega
def tripB (a b : List Nat) (i : Nat) : Bool := decide (a.getD (i * 3) 0 = b.getD (i * 3) 0) && (decide (a.getD (i * 3).succ 0 = b.getD (i * 3).succ 0) && decide (a.getD (i * 3).succ.succ 0 = b.getD (i * 3).succ.succ 0))
def ringsSame (n m : Nat) (a b : List Nat) : Bool := decide (n = m) && (List.range n).all (tripB a b)
theorem impl_SameRotor_1_eq {a b c d e f : Nat} (ha : canW .f32 a) (hb : canW .f32 b) (hc : canW .f32 c) (hd : canW .f32 d) (he : canW .f32 e) (hf : canW .f32 f) :
    F_impl_SameRotor_1 a b c d e f = some (decide (a = d) && (decide (b = e) && decide (c = f))) := by
  obtain ⟨p1, q1⟩ := impl_SameNumber_of (impl_SameNumber_eq ha hd)
  obtain ⟨p2, q2⟩ := impl_SameNumber_of (impl_SameNumber_eq hb he)
  obtain ⟨p3, q3⟩ := impl_SameNumber_of (impl_SameNumber_eq hc hf)
  unfold F_impl_SameRotor_1 T_impl_SameRotor_1
  simp only [p1, p2, p3, q1, q2, q3, grd_true]
  cases decide (a = d) <;> cases decide (b = e) <;> rfl
theorem slices_EqualFunc_station {a b : List Nat} {n m : Nat} (ha : ∀ x ∈ a, canW .f32 x) (hb : ∀ x ∈ b, canW .f32 x) (za : a.length = n * 3) (zb : b.length = m * 3) (hl : n < 281474976710656) :
    F_slices_EqualFunc_simpl_Station_simpl_Station_impl_Station_impl_Station_SameRotor_1 n a m b = some (ringsSame n m a b) := by
  unfold F_slices_EqualFunc_simpl_Station_simpl_Station_impl_Station_impl_Station_SameRotor_1 T_slices_EqualFunc_simpl_Station_simpl_Station_impl_Station_impl_Station_SameRotor_1 ringsSame
  rw [neN]
  by_cases h : n = m
  · subst h
    rw [decide_eq_true rfl]
    rcases scan (L := L_slices_EqualFunc_simpl_Station_simpl_Station_impl_Station_impl_Station_SameRotor_1_l4 n n (Int.ofNat n) a b) (len := n) (tripB a b) (g := fun _ => ()) (e := (Int.ofNat n, false))
      (fun k i hi => by
        rw [L_slices_EqualFunc_simpl_Station_simpl_Station_impl_Station_impl_Station_SameRotor_1_l4_succ]; unfold T_slices_EqualFunc_simpl_Station_simpl_Station_impl_Station_impl_Station_SameRotor_1_l4
        rw [ltN_t hi, okIx_t hi, ix3, addI1 (by omega)]
        obtain ⟨g1, g2⟩ := impl_SameRotor_1_of (impl_SameRotor_1_eq (ha _ (get_mem (i := i * 3) (by omega))) (ha _ (get_mem (i := (i * 3).succ) (by omega))) (ha _ (get_mem (i := (i * 3).succ.succ) (by omega))) (hb _ (get_mem (i := i * 3) (by omega))) (hb _ (get_mem (i := (i * 3).succ) (by omega))) (hb _ (get_mem (i := (i * 3).succ.succ) (by omega))))
        simp only [br_true, grd_true, gF, g1, g2]
        unfold tripB
        cases (decide (a.getD (i * 3) 0 = b.getD (i * 3) 0) && (decide (a.getD (i * 3).succ 0 = b.getD (i * 3).succ 0) && decide (a.getD (i * 3).succ.succ 0 = b.getD (i * 3).succ.succ 0))) <;> rfl)
      (fun k => by rw [L_slices_EqualFunc_simpl_Station_simpl_Station_impl_Station_impl_Station_SameRotor_1_l4_succ]; unfold T_slices_EqualFunc_simpl_Station_simpl_Station_impl_Station_impl_Station_SameRotor_1_l4; rw [ltN_f (Nat.le_refl _)]; rfl) n 0 big (by omega) (big_gt hl) with ⟨k1, k2⟩ | ⟨j, k1, k2, k3, k4⟩
    · obtain ⟨g1, g2, _⟩ := slices_EqualFunc_simpl_Station_simpl_Station_impl_Station_impl_Station_SameRotor_1_l4_of1 rfl k2
      rw [range_all.2 fun j hj => k1 j (Nat.zero_le _) hj]
      show br _ _ (grd (slices_EqualFunc_simpl_Station_simpl_Station_impl_Station_impl_Station_SameRotor_1_l4_p n n (Int.ofNat n) a b (Int.ofNat 0)) (br (slices_EqualFunc_simpl_Station_simpl_Station_impl_Station_impl_Station_SameRotor_1_l4_w0 n n (Int.ofNat n) a b (Int.ofNat 0)) _ _)) = _
      rw [g1, g2]; rfl
    · obtain ⟨g1, g2⟩ := slices_EqualFunc_simpl_Station_simpl_Station_impl_Station_impl_Station_SameRotor_1_l4_of0 rfl k4
      have : (List.range n).all (tripB a b) = false := by
        cases hh : (List.range n).all (tripB a b) with
        | false => rfl
        | true => rw [range_all.1 hh j k2] at k3; cases k3
      rw [this]
      show br _ _ (grd (slices_EqualFunc_simpl_Station_simpl_Station_impl_Station_impl_Station_SameRotor_1_l4_p n n (Int.ofNat n) a b (Int.ofNat 0)) (br (slices_EqualFunc_simpl_Station_simpl_Station_impl_Station_impl_Station_SameRotor_1_l4_w0 n n (Int.ofNat n) a b (Int.ofNat 0)) _ _)) = _
      rw [g1, g2]; rfl
  · rw [decide_eq_false h]; rfl
theorem spec_l03Same_loop {a b : List Nat} {n : Nat} (ha : ∀ x ∈ a, canW .f32 x) (hb : ∀ x ∈ b, canW .f32 x) (za : a.length = n * 3) (zb : b.length = n * 3) (hl : n < 281474976710656) :
    spec_l03Same_l4_p (Int.ofNat n) a n b n 0 = true ∧ spec_l03Same_l4_w0 (Int.ofNat n) a n b n 0 = !(List.range n).all (tripB a b) := by
  rcases scan (L := L_spec_l03Same_l4 (Int.ofNat n) a n b n) (len := n) (tripB a b) (g := fun _ => ()) (e := (Int.ofNat n, false))
    (fun k i hi => by
      rw [L_spec_l03Same_l4_succ]; unfold T_spec_l03Same_l4
      rw [ltN_t hi, okIx_t hi, ix3, addI1 (by omega)]
      obtain ⟨p1, q1⟩ := spec_l01Same_of (spec_l01Same_eq (ha _ (get_mem (i := i * 3) (by omega))) (hb _ (get_mem (i := i * 3) (by omega))))
      obtain ⟨p2, q2⟩ := spec_l01Same_of (spec_l01Same_eq (ha _ (get_mem (i := (i * 3).succ) (by omega))) (hb _ (get_mem (i := (i * 3).succ) (by omega))))
      obtain ⟨p3, q3⟩ := spec_l01Same_of (spec_l01Same_eq (ha _ (get_mem (i := (i * 3).succ.succ) (by omega))) (hb _ (get_mem (i := (i * 3).succ.succ) (by omega))))
      simp only [br_true, grd_true, gF, p1, q1, p2, q2, p3, q3]
      unfold tripB
      cases decide (a.getD (i * 3) 0 = b.getD (i * 3) 0) <;> cases decide (a.getD (i * 3).succ 0 = b.getD (i * 3).succ 0) <;> cases decide (a.getD (i * 3).succ.succ 0 = b.getD (i * 3).succ.succ 0) <;> rfl)
    (fun k => by rw [L_spec_l03Same_l4_succ]; unfold T_spec_l03Same_l4; rw [ltN_f (Nat.le_refl _)]; rfl) n 0 big (by omega) (big_gt hl) with ⟨k1, k2⟩ | ⟨j, k1, k2, k3, k4⟩
  · obtain ⟨g1, g2, _⟩ := spec_l03Same_l4_of1 rfl k2
    rw [range_all.2 fun j hj => k1 j (Nat.zero_le _) hj]
    exact ⟨g1, g2⟩
  · obtain ⟨g1, g2⟩ := spec_l03Same_l4_of0 rfl k4
    have : (List.range n).all (tripB a b) = false := by
      cases hh : (List.range n).all (tripB a b) with
      | false => rfl
      | true => rw [range_all.1 hh j k2] at k3; cases k3
    rw [this]
    exact ⟨g1, g2⟩
def sameProfB (as ls ds as' ls' ds' : List Nat) : Bool := decide (as = as') && (decide (ls = ls') && decide (ds = ds'))
theorem impl_SameProfile_eq {as ls ds as' ls' ds' : List Nat} (ka : ∀ x ∈ as, canW .f32 x) (kl : ∀ x ∈ ls, canW .f32 x) (kd : ∀ x ∈ ds, canW .f32 x) (ka' : ∀ x ∈ as', canW .f32 x) (kl' : ∀ x ∈ ls', canW .f32 x) (kd' : ∀ x ∈ ds', canW .f32 x)
    (la : as.length < 281474976710656) (ll : ls.length < 281474976710656) (ld : ds.length < 281474976710656) :
    F_impl_SameProfile as.length as ls.length ls ds.length ds as'.length as' ls'.length ls' ds'.length ds' = some (sameProfB as ls ds as' ls' ds') := by
  obtain ⟨p1, q1⟩ := impl_sameNumbers_of (impl_sameNumbers_eq ka ka' la)
  obtain ⟨p2, q2⟩ := impl_sameNumbers_of (impl_sameNumbers_eq kl kl' ll)
  obtain ⟨p3, q3⟩ := impl_sameNumbers_of (impl_sameNumbers_eq kd kd' ld)
  unfold F_impl_SameProfile T_impl_SameProfile sameProfB
  simp only [pF_all, p1, q1, p2, q2, p3, q3, grd_true]
  cases decide (as = as') <;> cases decide (ls = ls') <;> rfl
theorem spec_SameProfile_eq {as ls ds as' ls' ds' : List Nat} (ka : ∀ x ∈ as, canW .f32 x) (kl : ∀ x ∈ ls, canW .f32 x) (kd : ∀ x ∈ ds, canW .f32 x) (ka' : ∀ x ∈ as', canW .f32 x) (kl' : ∀ x ∈ ls', canW .f32 x) (kd' : ∀ x ∈ ds', canW .f32 x)
    (la : as.length < 281474976710656) (ll : ls.length < 281474976710656) (ld : ds.length < 281474976710656) :
    F_spec_SameProfile as.length as ls.length ls ds.length ds as'.length as' ls'.length ls' ds'.length ds' = some (sameProfB as ls ds as' ls' ds') := by
  obtain ⟨p1, q1⟩ := spec_l01SameAll_of (spec_l01SameAll_eq ka ka' la)
  obtain ⟨p2, q2⟩ := spec_l01SameAll_of (spec_l01SameAll_eq kl kl' ll)
  obtain ⟨p3, q3⟩ := spec_l01SameAll_of (spec_l01SameAll_eq kd kd' ld)
  obtain ⟨p4, q4⟩ := spec_l02Same_of (show F_spec_l02Same as.length as ls.length ls ds.length ds as'.length as' ls'.length ls' ds'.length ds' = some (sameProfB as ls ds as' ls' ds') by
    unfold F_spec_l02Same T_spec_l02Same sameProfB
    simp only [pF_all, p1, q1, p2, q2, p3, q3, grd_true]
    cases decide (as = as') <;> cases decide (ls = ls') <;> rfl)
  unfold F_spec_SameProfile T_spec_SameProfile
  simp only [pF_all, p4, q4, grd_true]
def sameRotB (as ls ds st : List Nat) (n : Nat) (count : Int) (hub tip : Nat) (as' ls' ds' st' : List Nat) (n' : Nat) (count' : Int) (hub' tip' : Nat) : Bool :=
  sameProfB as ls ds as' ls' ds' && (ringsSame n n' st st' && (decide (count = count') && (decide (hub = hub') && decide (tip = tip'))))
theorem neI_dec (a b : Int) : neI a b = !decide (a = b) := by
  unfold neI
  by_cases h : a = b
  · subst h; simp
  · rw [decide_eq_false h]
theorem impl_SameRotor_eq {as ls ds st : List Nat} {n : Nat} {count : Int} {hub tip : Nat} {as' ls' ds' st' : List Nat} {n' : Nat} {count' : Int} {hub' tip' : Nat}   (ka : ∀ x ∈ as, canW .f32 x) (kl : ∀ x ∈ ls, canW .f32 x) (kd : ∀ x ∈ ds, canW .f32 x) (z : st.length = n * 3) (ks : ∀ x ∈ st, canW .f32 x) (kh : canW .f32 hub) (kt : canW .f32 tip)   (ka' : ∀ x ∈ as', canW .f32 x) (kl' : ∀ x ∈ ls', canW .f32 x) (kd' : ∀ x ∈ ds', canW .f32 x) (z' : st'.length = n' * 3) (ks' : ∀ x ∈ st', canW .f32 x) (kh' : canW .f32 hub') (kt' : canW .f32 tip')   (la : as.length < 281474976710656) (ll : ls.length < 281474976710656) (ld : ds.length < 281474976710656) (ln : n < 281474976710656) : F_impl_SameRotor as.length as ls.length ls ds.length ds n st count hub tip as'.length as' ls'.length ls' ds'.length ds' n' st' count' hub' tip' = some (sameRotB as ls ds st n count hub tip as' ls' ds' st' n' count' hub' tip') := by
  have hst : pF st 0 (muN n 3) = st := pF_all3 z
  have hst' : pF st' 0 (muN n' 3) = st' := pF_all3 z'
  obtain ⟨p1, q1⟩ := impl_SameProfile_of (impl_SameProfile_eq ka kl kd ka' kl' kd' la ll ld)
  obtain ⟨p2, q2⟩ := slices_EqualFunc_simpl_Station_simpl_Station_impl_Station_impl_Station_SameRotor_1_of (slices_EqualFunc_station ks ks' z z' ln)
  obtain ⟨p3, q3⟩ := impl_SameNumber_of (impl_SameNumber_eq kh kh')
  obtain ⟨p4, q4⟩ := impl_SameNumber_of (impl_SameNumber_eq kt kt')
  unfold F_impl_SameRotor T_impl_SameRotor sameRotB
  simp only [pF_all, hst, hst', p1, q1, p2, q2, p3, q3, p4, q4, grd_true, eqI]
  cases sameProfB as ls ds as' ls' ds' <;> cases ringsSame n n' st st' <;> cases decide (count = count') <;> cases decide (hub = hub') <;> rfl
theorem spec_SameRotor_eq {as ls ds st : List Nat} {n : Nat} {count : Int} {hub tip : Nat} {as' ls' ds' st' : List Nat} {n' : Nat} {count' : Int} {hub' tip' : Nat}   (ka : ∀ x ∈ as, canW .f32 x) (kl : ∀ x ∈ ls, canW .f32 x) (kd : ∀ x ∈ ds, canW .f32 x) (z : st.length = n * 3) (ks : ∀ x ∈ st, canW .f32 x) (kh : canW .f32 hub) (kt : canW .f32 tip)   (ka' : ∀ x ∈ as', canW .f32 x) (kl' : ∀ x ∈ ls', canW .f32 x) (kd' : ∀ x ∈ ds', canW .f32 x) (z' : st'.length = n' * 3) (ks' : ∀ x ∈ st', canW .f32 x) (kh' : canW .f32 hub') (kt' : canW .f32 tip')   (la : as.length < 281474976710656) (ll : ls.length < 281474976710656) (ld : ds.length < 281474976710656) (ln : n < 281474976710656) : F_spec_SameRotor as.length as ls.length ls ds.length ds n st count hub tip as'.length as' ls'.length ls' ds'.length ds' n' st' count' hub' tip' = some (sameRotB as ls ds st n count hub tip as' ls' ds' st' n' count' hub' tip') := by
  have hst : pF st 0 (muN n 3) = st := pF_all3 z
  have hst' : pF st' 0 (muN n' 3) = st' := pF_all3 z'
  obtain ⟨p1, q1⟩ := spec_SameProfile_of (spec_SameProfile_eq ka kl kd ka' kl' kd' la ll ld)
  obtain ⟨p3, q3⟩ := spec_l01Same_of (spec_l01Same_eq kh kh')
  obtain ⟨p4, q4⟩ := spec_l01Same_of (spec_l01Same_eq kt kt')
  obtain ⟨p5, q5⟩ := spec_l03Same_of (show F_spec_l03Same as.length as ls.length ls ds.length ds n st count hub tip as'.length as' ls'.length ls' ds'.length ds' n' st' count' hub' tip' = some (sameRotB as ls ds st n count hub tip as' ls' ds' st' n' count' hub' tip') by
    unfold F_spec_l03Same T_spec_l03Same sameRotB ringsSame
    rw [neN, neI_dec]
    simp only [pF_all, p1, q1, p3, q3, p4, q4, grd_true]
    by_cases h : n = n'
    · subst h
      obtain ⟨p2, q2⟩ := spec_l03Same_loop ks ks' z z' ln
      rw [p2, q2, decide_eq_true rfl]
      cases sameProfB as ls ds as' ls' ds' <;> cases decide (count = count') <;> cases decide (hub = hub') <;> cases decide (tip = tip') <;> cases (List.range n).all (tripB st st') <;> rfl
    · rw [decide_eq_false h]
      cases sameProfB as ls ds as' ls' ds' <;> rfl)
  unfold F_spec_SameRotor T_spec_SameRotor
  simp only [pF_all, hst, hst', p5, q5, grd_true]
theorem plain_FnExactSameRotor {as ls ds st : List Nat} {n : Nat} {count : Int} {hub tip : Nat} {as' ls' ds' st' : List Nat} {n' : Nat} {count' : Int} {hub' tip' : Nat}
    (ka : ∀ x ∈ as, canW .f32 x) (ma : as.length ≤ maxLen) (kl : ∀ x ∈ ls, canW .f32 x) (ml : ls.length ≤ maxLen) (kd : ∀ x ∈ ds, canW .f32 x) (md : ds.length ≤ maxLen)
    (z : st.length = n * 3) (ks : ∀ x ∈ st, canW .f32 x) (mn : n ≤ maxLen) (kc : bdI .i64 count) (kh : canW .f32 hub) (kt : canW .f32 tip)
    (ka' : ∀ x ∈ as', canW .f32 x) (ma' : as'.length ≤ maxLen) (kl' : ∀ x ∈ ls', canW .f32 x) (ml' : ls'.length ≤ maxLen) (kd' : ∀ x ∈ ds', canW .f32 x) (md' : ds'.length ≤ maxLen)
    (z' : st'.length = n' * 3) (ks' : ∀ x ∈ st', canW .f32 x) (mn' : n' ≤ maxLen) (kc' : bdI .i64 count') (kh' : canW .f32 hub') (kt' : canW .f32 tip') :
    F_laws_FnExactSameRotor as.length as ls.length ls ds.length ds n st count hub tip as'.length as' ls'.length ls' ds'.length ds' n' st' count' hub' tip' = some true := by
  have hst : pF st 0 (muN n 3) = st := pF_all3 z
  have hst' : pF st' 0 (muN n' 3) = st' := pF_all3 z'
  obtain ⟨r, p1, q1, lr, h⟩ := rotor_law (count := count) (hub := hub) (tip := tip) ma ml md z mn (left := 1048576) (by decide) (by decide)
  unfold F_laws_FnExactSameRotor T_laws_FnExactSameRotor
  simp only [pF_all, hst, hst', p1, q1, grd_true]
  rcases h with h | ⟨e, l, t0, t1, t2, t3, t4, t5, t6, t7, t8, e0, e1⟩
  · rw [ltI_t h]; rfl
  · have hr : 0 ≤ r := by
      have := e
      unfold ltI at this
      have := of_decide_eq_false this
      omega
    obtain ⟨r', p1', q1', lr', h'⟩ := rotor_law (count := count') (hub := hub') (tip := tip') ma' ml' md' z' mn' hr lr
    simp only [e, p1', q1', grd_true, br_false]
    rcases h' with h' | ⟨e', l', t0', t1', t2', t3', t4', t5', t6', t7', t8', e0', e1'⟩
    · rw [ltI_t h']; rfl
    · obtain ⟨p2, q2⟩ := impl_SameRotor_of (impl_SameRotor_eq (count := count) (count' := count') ka kl kd z ks kh kt ka' kl' kd' z' ks' kh' kt' (by omega) (by omega) (by omega) (by omega))
      obtain ⟨p3, q3⟩ := spec_SameRotor_of (spec_SameRotor_eq (count := count) (count' := count') ka kl kd z ks kh kt ka' kl' kd' z' ks' kh' kt' (by omega) (by omega) (by omega) (by omega))
      simp only [e', t0, t1, t2, t3, t4, t5, t6, t7, t8, e0, e1, t0', t1', t2', t3', t4', t5', t6', t7', t8', e0', e1', pF_all, hst, hst', p2, q2, p3, q3, grd_true, br_false, bnot_true, beqB_self]
end Go.Rf
