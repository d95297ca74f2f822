/-
  Plain laws.
-/
import Derived.Test.YtihlcjjbenkokaaGlideAtP
set_option linter.unusedVariables false
set_option linter.unusedSimpArgs false
set_option maxRecDepth 100000
set_option maxHeartbeats 4000000
namespace Go.Rf
open Go
def finB (x : Nat) : Bool := fcmp .eql .f32 (fop .sub .f32 x x) 0
def leastB (x : Nat) : Bool := finB x && fcmp .geq .f32 x 0
theorem floatBits_nan {op : BinOp} {k : FloatKind} {x y : Nat} (h : nanB k x = true ∨ nanB k y = true) : floatBits op k x y = none := by
  unfold floatBits
  rcases h with h | h
  · obtain ⟨s, f, e⟩ := nan_form h
    cases op <;> simp only [Ieee.Format.add, Ieee.Format.sub, Ieee.Format.mul, Ieee.Format.div, e, sum_nan_left, product_nan_left, quotient_nan_left, Option.map_none]
  · obtain ⟨s, f, e⟩ := nan_form h
    cases op <;> simp only [Ieee.Format.add, Ieee.Format.sub, Ieee.Format.mul, Ieee.Format.div, e, sum_nan_right, product_nan_right, quotient_nan_right, Option.map_none, Ieee.Datum.opposite]
theorem fop_nan {op : BinOp} {k : FloatKind} {x y : Nat} (h : nanB k x = true ∨ nanB k y = true) : fop op k x y = qn k := by
  unfold fop
  rw [floatBits_nan h]; rfl
theorem fin_num {x : Nat} (h : finB x = true) : nanB .f32 x = false := by
  cases hn : nanB .f32 x with
  | false => rfl
  | true =>
    unfold finB at h
    rw [fop_nan (.inl hn), (fcmp_nan .f32 (.inl (nanB_qn .f32))).1] at h
    cases h
theorem nan_zero : nanB .f32 0 = false := by decide +kernel
theorem impl_IsFinite_eq (x : Nat) : z8m x = some (finB x) := rfl
theorem spec_l01Finite_eq (x : Nat) : z81 x = some (finB x) := rfl
theorem impl_isLeast_eq (x : Nat) : z7s x = some (leastB x) := by
  obtain ⟨h1, h2⟩ := z7z (impl_IsFinite_eq x)
  unfold z7s z7i leastB
  rw [h1, h2]
  cases finB x <;> rfl
theorem spec_l02Least_eq (x : Nat) : z75 x = some (leastB x) := by
  obtain ⟨h1, h2⟩ := z68 (spec_l01Finite_eq x)
  unfold z75 z74 leastB
  rw [h1, h2]
  cases finB x <;> rfl
theorem impl_areLeast_1_eq (x : Nat) : z67 x = some (!leastB x) := by
  obtain ⟨h1, h2⟩ := zf8 (impl_isLeast_eq x)
  unfold z67 z63
  rw [h1, h2]; rfl
def checkV (x : Nat) : Nat := if finB x then x else 0
theorem impl_checked_eq (x : Nat) : z6m x = some (checkV x, finB x) := by
  obtain ⟨h1, h2⟩ := z7z (impl_IsFinite_eq x)
  unfold z6m z7u checkV
  rw [h1, h2]
  cases finB x <;> rfl
theorem spec_l02Number_eq (x : Nat) : z5k x = some (checkV x, finB x) := by
  obtain ⟨h1, h2⟩ := z68 (spec_l01Finite_eq x)
  unfold z5k z6j checkV
  rw [h1, h2]
  cases finB x <;> rfl
theorem laws_sameFloat_refl (x : Nat) : z6n x x = some true := by
  unfold z6n z6t
  simp only [neq_self]
  cases hn : nanB .f64 x with
  | true => rfl
  | false =>
    have he : fcmp .eql .f64 x x = true := by rw [(fcmp_num .f64 hn hn).1]; simp
    simp only [br_if, Bool.false_eq_true, if_false, he, beqB, BEq.rfl]
    split <;> rfl
theorem slices_IndexFunc_areLeast {xs : List Nat} (hl : xs.length < 281474976710656) : ∃ r : Int, z3t xs.length xs = some r ∧ leI 0 r = !xs.all leastB := by
  unfold z3t z3u
  rcases scan_all (L := z1e xs.length (Int.ofNat xs.length) xs) xs leastB (g := fun i => Int.ofNat i) (e := (Int.ofNat xs.length, false))
    (fun n i hi => by
      rw [z58]; unfold z2u; rw [ltN_t hi, okIx_t hi, ix1, addI1 (by omega)]
      simp only [gF]
      generalize xs.getD i 0 = x
      obtain ⟨h1, h2⟩ := zdu (impl_areLeast_1_eq x)
      simp only [br_if, grd_true, h1, h2]
      rcases Bool.eq_false_or_eq_true (leastB x) with h | h <;> simp [h])
    (fun n => by rw [z58]; unfold z2u; rw [ltN_f (Nat.le_refl _)]; rfl) hl with ⟨h1, h2⟩ | ⟨j, h2, h3, h4⟩
  · obtain ⟨g1, g2, _⟩ := z8y rfl h2
    exact ⟨Int.negSucc 0, by rw [g1, g2]; rfl, by rw [h1]; rfl⟩
  · obtain ⟨g1, g2, g3⟩ := z90 rfl h4
    exact ⟨Int.ofNat j, by rw [g1, g2, g3]; rfl, by rw [h3]; exact decide_eq_true (by simp)⟩
theorem slices_ContainsFunc_areLeast {xs : List Nat} (hl : xs.length < 281474976710656) : z3o xs.length xs = some (!xs.all leastB) := by
  obtain ⟨r, h1, h2⟩ := slices_IndexFunc_areLeast hl
  obtain ⟨g1, g2⟩ := za2 h1
  unfold z3o z3p
  rw [pF_all, g1, g2, h2]; rfl
theorem impl_areLeast_eq {xs : List Nat} (hl : xs.length < 281474976710656) : z73 xs.length xs = some (xs.all leastB) := by
  obtain ⟨g1, g2⟩ := z9l (slices_ContainsFunc_areLeast hl)
  unfold z73 z70
  rw [pF_all, g1, g2]
  simp [grd_true, bnot]
def fromToB (x low high : Nat) : Bool := fcmp .geq .f32 x low && fcmp .leq .f32 x high
theorem impl_isFromTo_eq (x low high : Nat) : z6z x low high = some (fromToB x low high) := by
  unfold z6z z71 fromToB
  rcases Bool.eq_false_or_eq_true (fcmp .geq .f32 x low) with h | h <;> simp [h, br_if]
theorem laws_szFloat32S_eq (n : Nat) (xs : List Nat) (left : Int) : ∃ r, z62 n xs left = some r ∧ (0 ≤ left → left ≤ 1048576 → n ≤ 9223372036854775807 → (0 ≤ r → r = left - n ∧ (n : Int) ≤ left) ∧ r ≤ 1048576) := by
  unfold z62 z69
  by_cases h : subI .i64 left (Int.ofNat n) < 0
  · rw [ltI_t h]
    exact ⟨_, rfl, fun _ _ _ => ⟨fun q => by simp at q, by decide⟩⟩
  · rw [ltI_f h]
    refine ⟨_, rfl, fun h1 h2 h3 => ?_⟩
    have e : subI .i64 left (Int.ofNat n) = left - n := wrap64 (by simp; omega) (by simp; omega)
    rw [e] at h ⊢
    exact ⟨fun _ => ⟨rfl, by omega⟩, by omega⟩
theorem laws_toFloat32S_eq {xs : List Nat} (hl : xs.length ≤ 1099511627776) : z59 xs.length xs = some (xs.length, xs) := by
  have hf := folds (L := z3x xs.length xs.length xs) (len := xs.length) (fun i s => s.set i (xs.getD i 0)) (e := fun s => (Int.ofNat xs.length, false, s))
    (fun n i s hi => by rw [za5]; unfold z4e; rw [ltN_t hi, okIx_t hi, ix1, addI1 (by omega)]; rfl)
    (fun n s => by rw [za5]; unfold z4e; rw [ltN_f (Nat.le_refl _)]; rfl) xs.length 0 big (List.replicate xs.length 0) (by omega) (big_gt (by omega))
  rw [copy_fold xs _ _ _ (by omega) (by simp)] at hf
  simp only [List.take_zero, List.drop_zero, List.nil_append] at hf
  obtain ⟨g1, _, _, g2⟩ := zcd rfl hf
  have e : rF (muN (toN (Int.ofNat xs.length)) 1) = List.replicate xs.length 0 := by simp [rF, muN, toN]
  have ho : okMk (Int.ofNat xs.length) (Int.ofNat xs.length) 4 = true := decide_eq_true ⟨rfl, by simp, by simp; omega, by decide⟩
  unfold z59 z60
  rw [e, ho, toN_nat]
  show grd (z5y xs.length xs.length xs (Int.ofNat 0) (List.replicate xs.length 0)) (some (_, z56 xs.length xs.length xs (Int.ofNat 0) (List.replicate xs.length 0))) = _
  rw [g1, g2]; rfl
theorem laws_eqFloat32S_refl {xs : List Nat} (hl : xs.length < 281474976710656) : z5z xs.length xs xs.length xs = some true := by
  have hn : neI (Int.ofNat xs.length) (Int.ofNat xs.length) = false := by simp [neI]
  unfold z5z z64
  rw [hn]
  rcases scan_all (L := z3w xs.length xs.length xs xs) xs (fun _ => true) (g := fun i => ()) (e := (Int.ofNat xs.length, false))
    (fun n i hi => by
      obtain ⟨h1, h2⟩ := zbj (laws_sameFloat_refl (fcvV FloatKind.f32 FloatKind.f64 (gF xs i)))
      rw [za9]; unfold z4f; rw [ltN_t hi, okIx_t hi, ix1, addI1 (by omega), h1, h2]
      rfl)
    (fun n => by rw [za9]; unfold z4f; rw [ltN_f (Nat.le_refl _)]; rfl) hl with ⟨h1, h2⟩ | ⟨j, h2, h3, h4⟩
  · obtain ⟨g1, g2, _⟩ := zch rfl h2
    rw [g1, g2]; rfl
  · simp at h3
theorem beqB_self (b : Bool) : beqB b b = true := by cases b <;> rfl
theorem bnot_true : bnot true = false := rfl
theorem ltN (a b : Nat) : ltI (Int.ofNat a) (Int.ofNat b) = decide (a < b) := by by_cases h : a < b <;> simp [ltI, h] <;> omega
theorem get_mem {xs : List Nat} {i : Nat} (h : i < xs.length) : xs.getD i 0 ∈ xs := by
  rw [List.getD_eq_getElem?_getD, List.getElem?_eq_getElem h]; exact List.getElem_mem _
theorem math_Floor_eq {x : Nat} (h : nanB .f64 x = false) : z9d x = some (fint .down x) := by
  unfold z9d z9c
  simp only [nanQ, h, bnot, Bool.not_false, grd_true]
theorem impl_areFinite_1_eq (x : Nat) : z5r x = some (!finB x) := by
  obtain ⟨h1, h2⟩ := z7z (impl_IsFinite_eq x)
  unfold z5r z5s
  rw [h1, h2]; rfl
theorem slices_IndexFunc_areFinite {xs : List Nat} (hl : xs.length < 281474976710656) : ∃ r : Int, z3r xs.length xs = some r ∧ leI 0 r = !xs.all finB := by
  unfold z3r z3q
  rcases scan_all (L := z19 xs.length (Int.ofNat xs.length) xs) xs finB (g := fun i => Int.ofNat i) (e := (Int.ofNat xs.length, false))
    (fun n i hi => by
      rw [z54]; unfold z2t; rw [ltN_t hi, okIx_t hi, ix1, addI1 (by omega)]
      simp only [gF]
      generalize xs.getD i 0 = x
      obtain ⟨h1, h2⟩ := zdj (impl_areFinite_1_eq x)
      simp only [br_if, grd_true, h1, h2]
      rcases Bool.eq_false_or_eq_true (finB x) with h | h <;> simp [h])
    (fun n => by rw [z54]; unfold z2t; rw [ltN_f (Nat.le_refl _)]; rfl) hl with ⟨h1, h2⟩ | ⟨j, h2, h3, h4⟩
  · obtain ⟨g1, g2, _⟩ := z8u rfl h2
    exact ⟨Int.negSucc 0, by rw [g1, g2]; rfl, by rw [h1]; rfl⟩
  · obtain ⟨g1, g2, g3⟩ := z8w rfl h4
    exact ⟨Int.ofNat j, by rw [g1, g2, g3]; rfl, by rw [h3]; exact decide_eq_true (by simp)⟩
theorem slices_ContainsFunc_areFinite {xs : List Nat} (hl : xs.length < 281474976710656) : z3i xs.length xs = some (!xs.all finB) := by
  obtain ⟨r, h1, h2⟩ := slices_IndexFunc_areFinite hl
  obtain ⟨g1, g2⟩ := z9u h1
  unfold z3i z3f
  rw [pF_all, g1, g2, h2]; rfl
theorem impl_areFinite_eq {xs : List Nat} (hl : xs.length < 281474976710656) : z6f xs.length xs = some (xs.all finB) := by
  obtain ⟨g1, g2⟩ := z8x (slices_ContainsFunc_areFinite hl)
  unfold z6f z6o
  rw [pF_all, g1, g2]
  simp [grd_true, bnot]
theorem finB_eq (x : Nat) : finB x = finW .f32 x := by
  cases hn : nanB .f32 x with
  | true =>
    have h1 : finB x = false := by
      cases h : finB x with
      | false => rfl
      | true => rw [fin_num h] at hn; cases hn
    have h2 : finW .f32 x = false := by
      cases h : finW .f32 x with
      | false => rfl
      | true => rw [finW_nan h] at hn; cases hn
    rw [h1, h2]
  | false =>
    cases hf : finW .f32 x with
    | true =>
      unfold finB
      rw [sub_word hf hf]
      have h0 : (vl .f32 x - vl .f32 x).natAbs = 0 := by simp
      rw [h0, rnd_zero]
      generalize sgn0 _ _ _ = s
      cases s <;> decide +kernel
    | false =>
      have hr := inf_read hn hf
      unfold finB
      have e : fop .sub .f32 x x = qn .f32 := by
        unfold fop floatBits Ieee.Format.sub
        simp only [hr]
        cases nn .f32 x <;> simp [Ieee.Datum.opposite, Ieee.Datum.sum]
      rw [e]
      decide +kernel
theorem not_finW_nan {k : FloatKind} {x : Nat} (h : nanB k x = true) : finW k x = false := by
  cases hf : finW k x with
  | false => rfl
  | true => rw [finW_nan hf] at h; cases h
theorem qn_fin (k : FloatKind) : finW k (qn k) = false := not_finW_nan (nanB_qn k)
theorem eqN0 (i : Nat) : eqI (Int.ofNat i) 0 = decide (i = 0) := by
  unfold eqI
  by_cases h : i = 0
  · subst h; rfl
  · rw [decide_eq_false h]; exact decide_eq_false (by simp; omega)
theorem laws_szProfile_eq {as ls ds : List Nat} {left : Int} (ha : as.length ≤ maxLen) (hl : ls.length ≤ maxLen) (hd : ds.length ≤ maxLen) (h0 : 0 ≤ left) (h1 : left ≤ 1048576) :
    ∃ r, z6h as.length as ls.length ls ds.length ds left = some r ∧ (0 ≤ r → as.length + ls.length + ds.length ≤ 1048576) ∧ r ≤ 1048576 := by
  have hm : maxLen = 9223372036854775807 := by decide
  rw [hm] at ha hl hd
  obtain ⟨r1, h2, k1⟩ := laws_szFloat32S_eq as.length as left
  obtain ⟨p1, q1⟩ := zaj h2
  obtain ⟨k1, k1'⟩ := k1 h0 h1 ha
  obtain ⟨r2, h3, k2⟩ := laws_szFloat32S_eq ls.length ls r1
  obtain ⟨p2, q2⟩ := zaj h3
  obtain ⟨r3, h4, k3⟩ := laws_szFloat32S_eq ds.length ds r2
  obtain ⟨p3, q3⟩ := zaj h4
  unfold z6h z6u
  simp only [pF_all, p1, q1, grd_true, p2, q2, p3, q3]
  by_cases c1 : r1 < 0
  · rw [ltI_t c1]
    exact ⟨_, rfl, fun h => by simp at h, by decide⟩
  · rw [ltI_f c1]
    obtain ⟨e1, e2⟩ := k1 (by omega)
    obtain ⟨k2, k2'⟩ := k2 (by omega) (by omega) hl
    by_cases c2 : r2 < 0
    · rw [ltI_t c2]
      exact ⟨_, rfl, fun h => by simp at h, by decide⟩
    · rw [ltI_f c2]
      obtain ⟨e3, e4⟩ := k2 (by omega)
      obtain ⟨k3, k3'⟩ := k3 (by omega) (by omega) hd
      by_cases c3 : r3 < 0
      · rw [ltI_t c3]
        exact ⟨_, rfl, fun h => by simp at h, by decide⟩
      · rw [ltI_f c3]
        obtain ⟨e5, e6⟩ := k3 (by omega)
        exact ⟨_, rfl, fun h => by omega, by omega⟩
theorem laws_toProfile_eq {as ls ds : List Nat} (ha : as.length ≤ 1099511627776) (hl : ls.length ≤ 1099511627776) (hd : ds.length ≤ 1099511627776) : z4l as.length as ls.length ls ds.length ds = some (as.length, ls.length, ds.length, as, ls, ds) := by
  obtain ⟨p1, q1, r1⟩ := zae (laws_toFloat32S_eq ha)
  obtain ⟨p2, q2, r2⟩ := zae (laws_toFloat32S_eq hl)
  obtain ⟨p3, q3, r3⟩ := zae (laws_toFloat32S_eq hd)
  unfold z4l z6q
  simp only [pF_all, p1, q1, r1, p2, q2, r2, p3, q3, r3, grd_true]
theorem laws_eqProfile_refl {as ls ds : List Nat} (ha : as.length < 281474976710656) (hl : ls.length < 281474976710656) (hd : ds.length < 281474976710656) : z6w as.length as ls.length ls ds.length ds as.length as ls.length ls ds.length ds = some true := by
  obtain ⟨p1, q1⟩ := zal (laws_eqFloat32S_refl ha)
  obtain ⟨p2, q2⟩ := zal (laws_eqFloat32S_refl hl)
  obtain ⟨p3, q3⟩ := zal (laws_eqFloat32S_refl hd)
  unfold z6w z6i
  simp only [pF_all, p1, q1, p2, q2, p3, q3, grd_true]
  rfl
def knotB (as : List Nat) (j : Nat) : Bool := fromToB (as.getD j 0) 3204448256 1056964608 && (decide (j = 0) || !fcmp .leq .f32 (as.getD j 0) (as.getD (j - 1) 0))
def profB (as ls ds : List Nat) (j : Nat) : Bool := knotB as j && (finB (ls.getD j 0) && leastB (ds.getD j 0))
def validProfB (as ls ds : List Nat) : Bool := decide (2 ≤ as.length) && (decide (as.length ≤ 24) && (decide (ls.length = as.length) && (decide (ds.length = as.length) && (List.range as.length).all (profB as ls ds))))
theorem range_all {n : Nat} {p : Nat → Bool} : (List.range n).all p = true ↔ ∀ j, j < n → p j = true := by simp [List.all_eq_true]
theorem geq_leq {x y : Nat} : fcmp .geq .f32 x y = fcmp .leq .f32 y x := by
  cases hx : nanB .f32 x with
  | true => rw [(fcmp_nan .f32 (.inl hx)).2.2.2.2.2, (fcmp_nan .f32 (.inr hx)).2.2.2.1]
  | false =>
    cases hy : nanB .f32 y with
    | true => rw [(fcmp_nan .f32 (.inr hy)).2.2.2.2.2, (fcmp_nan .f32 (.inl hy)).2.2.2.1]
    | false => rw [(fcmp_num .f32 hx hy).2.2.2.2.2, (fcmp_num .f32 hy hx).2.2.2.1]
theorem ltN0 (i : Nat) : ltI 0 (Int.ofNat i) = !decide (i = 0) := by
  rw [show ltI 0 (Int.ofNat i) = decide (0 < i) from ltN 0 i]
  by_cases h : i = 0
  · rw [decide_eq_true h, decide_eq_false (by omega)]; rfl
  · rw [decide_eq_false h, decide_eq_true (by omega)]; rfl
theorem subN1 {i : Nat} (h : i ≠ 0) (h2 : i < 4611686018427387904) : subI .i64 (Int.ofNat i) 1 = Int.ofNat (i - 1) := by
  have : subI .i64 (Int.ofNat i) 1 = (i : Int) - 1 := wrap64 (by simp; omega) (by simp; omega)
  rw [this]; simp; omega
theorem impl_ValidProfile_loop {as : List Nat} (hl : as.length ≤ 24) :
    z4t as.length (Int.ofNat as.length) as as.length 0 = true ∧ z4n as.length (Int.ofNat as.length) as as.length 0 = !(List.range as.length).all (knotB as) := by
  rcases scan (L := z3d as.length (Int.ofNat as.length) as as.length) (len := as.length) (knotB as) (g := fun _ => ()) (e := (Int.ofNat as.length, false))
    (fun n i hi => by
      rw [z9q]; unfold z45
      obtain ⟨p1, q1⟩ := zf3 (impl_isFromTo_eq (as.getD i 0) 3204448256 1056964608)
      rw [ltN_t hi, okIx_t hi, ix1, addI1 (by omega), ltN0]
      simp only [gF, p1, q1, grd_true, br_true]
      unfold knotB
      by_cases h0 : i = 0
      · subst h0
        cases fromToB (as.getD 0 0) 3204448256 1056964608 <;> rfl
      · rw [subN1 h0 (by omega), okIx_t (show i - 1 < as.length by omega), ix1, geq_leq, decide_eq_false h0]
        cases fromToB (as.getD i 0) 3204448256 1056964608
        · rfl
        · cases fcmp .leq .f32 (as.getD i 0) (as.getD (i - 1) 0) <;> rfl)
    (fun n => by rw [z9q]; unfold z45; rw [ltN_f (Nat.le_refl _)]; rfl) as.length 0 big (by omega) (big_gt (by omega)) with ⟨h1, h2⟩ | ⟨j, _, h2, h3, h4⟩
  · obtain ⟨g1, g2, _⟩ := zc2 rfl h2
    rw [range_all.2 fun j hj => h1 j (Nat.zero_le _) hj]
    exact ⟨g1, g2⟩
  · obtain ⟨g1, g2⟩ := zbt rfl h4
    have : (List.range as.length).all (knotB as) = false := by
      cases hh : (List.range as.length).all (knotB as) with
      | false => rfl
      | true => rw [range_all.1 hh j h2] at h3; cases h3
    rw [this]
    exact ⟨g1, g2⟩
theorem all_getD {xs : List Nat} {p : Nat → Bool} : xs.all p = true ↔ ∀ j, j < xs.length → p (xs.getD j 0) = true := by
  rw [List.all_eq_true]
  constructor
  · intro h j hj; exact h _ (get_mem hj)
  · intro h x hx
    obtain ⟨i, hi, rfl⟩ := List.getElem_of_mem hx
    have := h i hi
    simpa [List.getD_eq_getElem?_getD, hi] using this
theorem ltN2 (n : Nat) : ltI (Int.ofNat n) 2 = !decide (2 ≤ n) := by
  rw [show ltI (Int.ofNat n) 2 = decide (n < 2) from ltN n 2]
  by_cases h : 2 ≤ n
  · rw [decide_eq_true h, decide_eq_false (by omega)]; rfl
  · rw [decide_eq_false h, decide_eq_true (by omega)]; rfl
theorem gtN (c n : Nat) : ltI (Int.ofNat c) (Int.ofNat n) = !decide (n ≤ c) := by
  rw [ltN]
  by_cases h : n ≤ c
  · rw [decide_eq_true h, decide_eq_false (by omega)]; rfl
  · rw [decide_eq_false h, decide_eq_true (by omega)]; rfl
theorem neN (m n : Nat) : neI (Int.ofNat m) (Int.ofNat n) = !decide (m = n) := by
  unfold neI
  by_cases h : m = n
  · subst h; simp
  · rw [decide_eq_false h]; simp; omega
theorem impl_ValidProfile_eq {as ls ds : List Nat} (hl : ls.length < 281474976710656) (hd : ds.length < 281474976710656) : z5f as.length as ls.length ls ds.length ds = some (validProfB as ls ds) := by
  obtain ⟨p1, q1⟩ := zem (impl_areFinite_eq hl)
  obtain ⟨p2, q2⟩ := zf2 (impl_areLeast_eq hd)
  unfold z5f z5e validProfB
  rw [ltN2, show ltI 24 (Int.ofNat as.length) = !decide (as.length ≤ 24) from gtN 24 _, neN, neN]
  simp only [pF_all, p1, q1, p2, q2, grd_true]
  by_cases c1 : 2 ≤ as.length
  · by_cases c2 : as.length ≤ 24
    · by_cases c3 : ls.length = as.length
      · by_cases c4 : ds.length = as.length
        · obtain ⟨g1, g2⟩ := impl_ValidProfile_loop c2
          rw [decide_eq_true c1, decide_eq_true c2, decide_eq_true c3, decide_eq_true c4, g1, g2]
          have key : (List.range as.length).all (profB as ls ds) = (ls.all finB && (ds.all leastB && (List.range as.length).all (knotB as))) := by
            rw [Bool.eq_iff_iff, Bool.and_eq_true, Bool.and_eq_true, range_all, range_all, all_getD, all_getD, c3, c4]
            constructor
            · intro h
              refine ⟨fun j hj => ?_, fun j hj => ?_, fun j hj => ?_⟩
              all_goals have := h j hj; unfold profB at this; simp only [Bool.and_eq_true] at this
              · exact this.2.1
              · exact this.2.2
              · exact this.1
            · rintro ⟨h1, h2, h3⟩ j hj
              unfold profB
              rw [h1 j hj, h2 j hj, h3 j hj]; rfl
          rw [key]
          cases ls.all finB <;> cases ds.all leastB <;> cases (List.range as.length).all (knotB as) <;> rfl
        · rw [decide_eq_false c4]
          rw [decide_eq_true c1, decide_eq_true c2, decide_eq_true c3]; rfl
      · rw [decide_eq_false c3]
        rw [decide_eq_true c1, decide_eq_true c2]; rfl
    · rw [decide_eq_false c2]
      rw [decide_eq_true c1]; rfl
  · rw [decide_eq_false c1]; rfl
theorem spec_l02Is_eq {as ls ds : List Nat} : z9e as.length as ls.length ls ds.length ds = some (validProfB as ls ds) := by
  unfold z9e z9k validProfB
  rw [ltN2, show ltI 24 (Int.ofNat as.length) = !decide (as.length ≤ 24) from gtN 24 _, neN, neN]
  by_cases c1 : 2 ≤ as.length
  · by_cases c2 : as.length ≤ 24
    · by_cases c3 : ls.length = as.length
      · by_cases c4 : ds.length = as.length
        · rw [decide_eq_true c1, decide_eq_true c2, decide_eq_true c3, decide_eq_true c4]
          rcases scan (L := z49 (Int.ofNat as.length) as ls ds as.length ls.length ds.length) (len := as.length) (profB as ls ds) (g := fun _ => ()) (e := (Int.ofNat as.length, false))
            (fun n i hi => by
              rw [zb7]; unfold z4y
              obtain ⟨p1, q1⟩ := z68 (spec_l01Finite_eq (ls.getD i 0))
              obtain ⟨p2, q2⟩ := zf5 (spec_l02Least_eq (ds.getD i 0))
              rw [ltN_t hi, okIx_t hi, ix1, addI1 (by omega), ltN0, okIx_t (show i < ls.length by omega), okIx_t (show i < ds.length by omega)]
              simp only [gF, p1, q1, p2, q2, grd_true, br_true]
              unfold profB knotB fromToB
              by_cases h0 : i = 0
              · subst h0
                cases fcmp .geq .f32 (as.getD 0 0) 3204448256 <;> cases fcmp .leq .f32 (as.getD 0 0) 1056964608 <;> cases finB (ls.getD 0 0) <;> cases leastB (ds.getD 0 0) <;> rfl
              · rw [subN1 h0 (by omega), okIx_t (show i - 1 < as.length by omega), ix1, decide_eq_false h0]
                cases fcmp .geq .f32 (as.getD i 0) 3204448256 <;> cases fcmp .leq .f32 (as.getD i 0) 1056964608 <;> cases fcmp .leq .f32 (as.getD i 0) (as.getD (i - 1) 0) <;> cases finB (ls.getD i 0) <;> cases leastB (ds.getD i 0) <;> rfl)
            (fun n => by rw [zb7]; unfold z4y; rw [ltN_f (Nat.le_refl _)]; rfl) as.length 0 big (by omega) (big_gt (by omega)) with ⟨h1, h2⟩ | ⟨j, _, h2, h3, h4⟩
          · obtain ⟨g1, g2, _⟩ := zek rfl h2
            rw [range_all.2 fun j hj => h1 j (Nat.zero_le _) hj]
            show grd (z5d (Int.ofNat as.length) as ls ds as.length ls.length ds.length (Int.ofNat 0)) (br (z53 (Int.ofNat as.length) as ls ds as.length ls.length ds.length (Int.ofNat 0)) _ _) = _
            rw [g1, g2]; rfl
          · obtain ⟨g1, g2⟩ := zea rfl h4
            have : (List.range as.length).all (profB as ls ds) = false := by
              cases hh : (List.range as.length).all (profB as ls ds) with
              | false => rfl
              | true => rw [range_all.1 hh j h2] at h3; cases h3
            rw [this]
            show grd (z5d (Int.ofNat as.length) as ls ds as.length ls.length ds.length (Int.ofNat 0)) (br (z53 (Int.ofNat as.length) as ls ds as.length ls.length ds.length (Int.ofNat 0)) _ _) = _
            rw [g1, g2]; rfl
        · rw [decide_eq_false c4]
          rw [decide_eq_true c1, decide_eq_true c2, decide_eq_true c3]; rfl
      · rw [decide_eq_false c3]
        rw [decide_eq_true c1, decide_eq_true c2]; rfl
    · rw [decide_eq_false c2]
      rw [decide_eq_true c1]; rfl
  · rw [decide_eq_false c1]; rfl
def mixed (a b s : Nat) : Nat := fop .add .f32 a (fop .mul .f32 s (fop .sub .f32 b a))
theorem validProfB_len {as ls ds : List Nat} (h : validProfB as ls ds = true) : 2 ≤ as.length ∧ as.length ≤ 24 ∧ ls.length = as.length ∧ ds.length = as.length := by
  unfold validProfB at h
  simp only [Bool.and_eq_true, decide_eq_true_eq] at h
  exact ⟨h.1, h.2.1, h.2.2.1, h.2.2.2.1⟩
theorem up_fin (x : Nat) : finW .f64 (fcvV .f32 .f64 x) = finW .f32 x := by
  cases hn : nanB .f32 x with
  | true =>
    have e : fcvV .f32 .f64 x = qn .f64 := by unfold fcvV fcv; rw [hn]; rfl
    rw [e, qn_fin, not_finW_nan hn]
  | false =>
    cases hf : finW .f32 x with
    | true =>
      have h1 : rg FloatKind.f32.format x ≤ 2139095039 := by
        have := finW_lt hf
        have hi : FloatKind.f32.format.infRung = 2139095040 := by decide
        omega
      exact finW_of (up_rg (c := 5183643170566569984) (N := 925) h1 (by decide +kernel) (by decide +kernel) (by decide +kernel)) (by decide +kernel)
    | false =>
      have hr := inf_read hn hf
      have e : fcvV .f32 .f64 x = FloatKind.f64.format.word (nn .f32 x) FloatKind.f64.format.infRung := by
        obtain ⟨r, hr2⟩ := fcv_up x
        have hv : fcvV .f32 .f64 x = r := by unfold fcvV; rw [hr2]; rfl
        rw [hv]
        unfold fcv at hr2
        rw [hn] at hr2
        simp only [Bool.false_eq_true, if_false] at hr2
        unfold floatToFloatBits at hr2
        rw [if_neg (by intro h; cases h)] at hr2
        have hd : FloatKind.f32.decode x = .infinity (nn .f32 x) := hr
        rw [hd] at hr2
        simp only at hr2
        cases hr2
        rfl
      rw [e]
      unfold finW
      rw [rg_word _ _ (Nat.le_refl _)]
      exact decide_eq_false (by omega)
theorem spec_l01Narrow_eq {x : Nat} (h : fcvB .f64 .f32 x = true) : z6r x = some (fcvV .f64 .f32 x) := by
  unfold z6r z6v
  rw [h]; rfl
theorem down_nan {y : Nat} (hn : nanB .f64 y = false) (h : fcvB .f64 .f32 y = true) : nanB .f32 (fcvV .f64 .f32 y) = false := by
  unfold fcvB at h
  obtain ⟨r, hr⟩ := Option.isSome_iff_exists.1 h
  have hv : fcvV .f64 .f32 y = r := by unfold fcvV; rw [hr]; rfl
  rw [hv]
  unfold fcv at hr
  rw [hn] at hr
  simp only [Bool.false_eq_true, if_false] at hr
  unfold floatToFloatBits at hr
  rw [if_neg (by intro h; cases h)] at hr
  split at hr
  · cases hr
  · cases hr
    exact nanB_word .f32 _ (Nat.le_refl _)
  · split at hr
    · cases hr
    · cases hr
      show nanB .f32 (FloatKind.f32.format.nearest _ _ _) = false
      rw [(nearest_word _ _ _ _).1]
      exact nanB_word .f32 _ (rnd_inf _ _ _)
noncomputable def wrapY (x : Nat) : Nat := fop .sub .f64 (fcvV .f32 .f64 x) (fint .down (fop .add .f64 (fcvV .f32 .f64 x) 4602678819172646912))
noncomputable def wrapV (x : Nat) : Nat := if fcmp .geq .f32 (fcvV .f64 .f32 (wrapY x)) 1056964608 = true then 3204448256 else fcvV .f64 .f32 (wrapY x)
theorem up_max {x : Nat} (h : finB x = true) : finW .f64 (fcvV .f32 .f64 x) = true ∧ rg FloatKind.f64.format (fcvV .f32 .f64 x) ≤ 5183643171103440896 := by
  rw [finB_eq] at h
  have h1 : rg FloatKind.f32.format x ≤ 2139095039 := by
    have := finW_lt h
    have hi : FloatKind.f32.format.infRung = 2139095040 := by decide
    omega
  exact ⟨by rw [up_fin, h], up_rg (N := 925) h1 (by decide +kernel) (by decide +kernel) (by decide +kernel)⟩
theorem wrapV_nan {x : Nat} (h : finB x = true) : nanB .f32 (wrapV x) = false := by
  obtain ⟨h1, h2⟩ := up_max h
  obtain ⟨w1, w2, w3⟩ := wrap_down h1 h2
  unfold wrapV
  split
  · decide +kernel
  · exact down_nan w3 w2
theorem impl_wrapAngle_eq {x : Nat} (h : finB x = true) : z6p x = some (wrapV x) := by
  obtain ⟨h1, h2⟩ := up_max h
  obtain ⟨w1, w2, w3⟩ := wrap_down h1 h2
  obtain ⟨p, q⟩ := zdf (math_Floor_eq w1)
  unfold z6p z6s wrapV wrapY
  rw [p, q, w2, br_if]
  split <;> rfl
theorem spec_l02Wrap_eq {x : Nat} (h : finB x = true) : z7j x = some (wrapV x) := by
  obtain ⟨h1, h2⟩ := up_max h
  obtain ⟨w1, w2, w3⟩ := wrap_down h1 h2
  obtain ⟨p, q⟩ := zdf (math_Floor_eq w1)
  obtain ⟨p2, q2⟩ := zed (spec_l01Narrow_eq w2)
  unfold z7j z7p wrapV wrapY
  rw [p, q, p2, q2, br_if]
  split <;> rfl
theorem rnd_pos (f : Ieee.Format) {m : Nat} (h : 0 < m) (hi : 1 ≤ f.infRung) (hb : rungV f 1 ≤ 1) : rnd f m f.leastPlace ≠ 0 := by
  have := le_rnd f (m := m) (r := 1) (u := 0) (v := 0) (place := f.leastPlace) hi rfl (by rw [Nat.pow_zero, Nat.mul_one, Nat.mul_one]; omega)
  omega
theorem sub_zero {x y : Nat} (hx : finW .f32 x = true) (hy : finW .f32 y = true) : fcmp .eql .f32 (fop .sub .f32 x y) 0 = fcmp .eql .f32 x y := by
  have hsub := sub_word hx hy
  have hn : nanB .f32 (fop .sub .f32 x y) = false := by rw [hsub]; exact nanB_word .f32 _ (rnd_inf _ _ _)
  rw [(fcmp_num .f32 hn nan_zero).1, (fcmp_num .f32 (finW_nan hx) (finW_nan hy)).1]
  have hr : rg FloatKind.f32.format (fop .sub .f32 x y) = rnd FloatKind.f32.format (vl .f32 x - vl .f32 y).natAbs (lp .f32) := by rw [hsub]; exact rg_word _ _ (rnd_inf _ _ _)
  have h0 : srung FloatKind.f32.format 0 = 0 := by decide +kernel
  rw [h0]
  have e1 : srung FloatKind.f32.format (fop .sub .f32 x y) = 0 ↔ vl .f32 x = vl .f32 y := by
    have : srung FloatKind.f32.format (fop .sub .f32 x y) = 0 ↔ rg FloatKind.f32.format (fop .sub .f32 x y) = 0 := by
      unfold srung sg
      by_cases hs : ngB FloatKind.f32.format (fop .sub .f32 x y) = true
      · rw [if_pos hs]; omega
      · rw [if_neg hs]; omega
    rw [this, hr]
    constructor
    · intro h
      by_cases hd : (vl .f32 x - vl .f32 y).natAbs = 0
      · omega
      · exact absurd h (rnd_pos FloatKind.f32.format (by omega) (by decide) (by decide +kernel))
    · intro h
      have : (vl .f32 x - vl .f32 y).natAbs = 0 := by omega
      rw [this, rnd_zero]
  have e2 : vl .f32 x = vl .f32 y ↔ srung FloatKind.f32.format x = srung FloatKind.f32.format y := by
    have h := cmp_sg FloatKind.f32.format (nn .f32 x) (nn .f32 y) (rg FloatKind.f32.format x) (rg FloatKind.f32.format y)
    have key : ∀ a b : Int, compare a b = .eq ↔ a = b := by
      intro a b
      rw [cmp_int]
      by_cases h1 : a < b
      · rw [if_pos h1]; constructor
        · intro h; cases h
        · intro h; omega
      · rw [if_neg h1]
        by_cases h2 : a = b
        · rw [if_pos h2]; simp [h2]
        · rw [if_neg h2]; constructor
          · intro h; cases h
          · intro h; exact absurd h h2
    rw [← key, ← key]
    show compare (sg (nn .f32 x) (rungV _ _)) (sg (nn .f32 y) (rungV _ _)) = _ ↔ compare (sg _ _) (sg _ _) = _
    rw [h]; exact Iff.rfl
  exact decide_eq_decide.2 (e1.trans e2)
theorem neq_eql {x y : Nat} (hx : nanB .f32 x = false) (hy : nanB .f32 y = false) : fcmp .neq .f32 x y = !fcmp .eql .f32 y x := by
  rw [(fcmp_num .f32 hx hy).2.1, (fcmp_num .f32 hy hx).1]
  congr 1
  exact decide_eq_decide.2 ⟨Eq.symm, Eq.symm⟩
theorem scan_first {α β : Type} {L : Nat → Int → Option (α ⊕ β)} {len : Nat} (p : Nat → Bool) {g : Nat → α} {e : β}
    (hs : ∀ n i, i < len → L (n + 1) (Int.ofNat i) = if p i = true then L n (Int.ofNat (i + 1)) else some (.inl (g i)))
    (he : ∀ n, L (n + 1) (Int.ofNat len) = some (.inr e)) :
    ∀ k i n, i + k = len → k < n → ((∀ j, i ≤ j → j < len → p j = true) ∧ L n (Int.ofNat i) = some (.inr e)) ∨ ∃ j, i ≤ j ∧ j < len ∧ p j = false ∧ (∀ l, i ≤ l → l < j → p l = true) ∧ L n (Int.ofNat i) = some (.inl (g j))
  | 0, i, n, hk, hn => by
    obtain ⟨n, rfl⟩ : ∃ m, n = m + 1 := ⟨n - 1, by omega⟩
    obtain rfl : i = len := by omega
    exact .inl ⟨fun j h1 h2 => by omega, he n⟩
  | k + 1, i, n, hk, hn => by
    obtain ⟨n, rfl⟩ : ∃ m, n = m + 1 := ⟨n - 1, by omega⟩
    have hi : i < len := by omega
    rw [hs n i hi]
    cases hp : p i with
    | false => exact .inr ⟨i, Nat.le_refl _, hi, hp, fun l h1 h2 => by omega, by simp⟩
    | true =>
      simp only [if_pos]
      rcases scan_first p hs he k (i + 1) n (by omega) (by omega) with ⟨h1, h2⟩ | ⟨j, h1, h2, h3, h5, h4⟩
      · refine .inl ⟨fun j h3 h4 => ?_, h2⟩
        by_cases e : j = i
        · rw [e]; exact hp
        · exact h1 j (by omega) h4
      · refine .inr ⟨j, by omega, h2, h3, fun l h6 h7 => ?_, h4⟩
        by_cases e : l = i
        · rw [e]; exact hp
        · exact h5 l (by omega) h7
theorem knot_rg {as : List Nat} {j : Nat} (h : knotB as j = true) : rg FloatKind.f32.format (as.getD j 0) ≤ 1056964608 := by
  unfold knotB fromToB at h
  simp only [Bool.and_eq_true] at h
  exact between_rg (k := .f32) (by decide +kernel) (by decide +kernel) (by decide +kernel) (by decide +kernel) h.1.1 h.1.2
theorem knot_lt {as : List Nat} {n : Nat} (h : ∀ j, j < n → knotB as j = true) : ∀ d i, i + d < n → srung FloatKind.f32.format (as.getD i 0) ≤ srung FloatKind.f32.format (as.getD (i + d) 0)
  | 0, i, _ => Int.le_refl _
  | d + 1, i, hi => by
    have h1 := knot_lt h d i (by omega)
    have h2 := h (i + (d + 1)) hi
    have n1 : nanB .f32 (as.getD (i + (d + 1)) 0) = false := finW_nan (finW_of (knot_rg h2) (by decide +kernel))
    have n2 : nanB .f32 (as.getD (i + d) 0) = false := finW_nan (finW_of (knot_rg (h (i + d) (by omega))) (by decide +kernel))
    unfold knotB at h2
    rw [decide_eq_false (by omega), Bool.and_eq_true, Bool.false_or, show i + (d + 1) - 1 = i + d by omega] at h2
    rw [(fcmp_num .f32 n1 n2).2.2.2.1] at h2
    have h3 := h2.2
    simp only [Bool.not_eq_true', decide_eq_false_iff_not] at h3
    omega
def aboveB (as : List Nat) (t j : Nat) : Bool := fcmp .gtr .f32 (as.getD j 0) t
theorem impl_between_find {as : List Nat} {t : Nat} (hl : as.length ≤ 24) :
    ((∀ j, j < as.length → aboveB as t j = false) ∧ z0l as.length (Int.ofNat as.length) as t big 0 = some (.inr (Int.ofNat as.length, false))) ∨
    ∃ j, j < as.length ∧ aboveB as t j = true ∧ (∀ l, l < j → aboveB as t l = false) ∧ z0l as.length (Int.ofNat as.length) as t big 0 = some (.inl (Int.ofNat j)) := by
  rcases scan_first (L := z0l as.length (Int.ofNat as.length) as t) (len := as.length) (fun j => !aboveB as t j) (g := fun j => Int.ofNat j) (e := (Int.ofNat as.length, false))
    (fun n i hi => by
      rw [z4z]; unfold z2o
      rw [ltN_t hi, okIx_t hi, ix1, addI1 (by omega)]
      unfold aboveB
      simp only [gF, br_true, grd_true]
      cases fcmp .gtr .f32 (as.getD i 0) t <;> rfl)
    (fun n => by rw [z4z]; unfold z2o; rw [ltN_f (Nat.le_refl _)]; rfl) as.length 0 big (by omega) (big_gt (by omega)) with ⟨h1, h2⟩ | ⟨j, _, h2, h3, h4, h5⟩
  · exact .inl ⟨fun j hj => by simpa using h1 j (Nat.zero_le _) hj, h2⟩
  · exact .inr ⟨j, h2, by simpa using h3, fun l hl => by simpa using h4 l (Nat.zero_le _) hl, h5⟩
theorem spec_pair_down {as : List Nat} {t j : Nat} (hl : as.length ≤ 24) (h1 : ∀ l, l < j → aboveB as t l = false) (h2 : ∀ l, j ≤ l → l < as.length → aboveB as t l = true) :
    ∀ d m, j + d ≤ as.length → d < m → z43 t as as.length m ((j : Int) + (d : Int) - 1) = some ((j : Int) - 1, false)
  | 0, m, hd, hm => by
    obtain ⟨m, rfl⟩ : ∃ k, m = k + 1 := ⟨m - 1, by omega⟩
    rw [zaz]; unfold z4v
    by_cases h0 : j = 0
    · subst h0; rfl
    · have e : (j : Int) + ((0 : Nat) : Int) - 1 = Int.ofNat (j - 1) := by simp; omega
      have e2 : (j : Int) - 1 = Int.ofNat (j - 1) := by simp; omega
      have ha := h1 (j - 1) (by omega)
      unfold aboveB at ha
      rw [e, e2, show leI 0 (Int.ofNat (j - 1)) = true from decide_eq_true (by simp), okIx_t (show j - 1 < as.length by omega), ix1]
      show br true (grd true (br (fcmp .gtr .f32 (as.getD (j - 1) 0) t) _ (some (_, fcmp .gtr .f32 (as.getD (j - 1) 0) t)))) _ = _
      rw [ha]; rfl
  | d + 1, m, hd, hm => by
    obtain ⟨m, rfl⟩ : ∃ k, m = k + 1 := ⟨m - 1, by omega⟩
    have e : (j : Int) + ((d + 1 : Nat) : Int) - 1 = Int.ofNat (j + d) := by simp; omega
    have ha := h2 (j + d) (by omega) (by omega)
    unfold aboveB at ha
    rw [zaz]; unfold z4v
    rw [e, show leI 0 (Int.ofNat (j + d)) = true from decide_eq_true (by simp; omega), okIx_t (show j + d < as.length by omega), ix1]
    have e3 : subI .i64 (Int.ofNat (j + d)) 1 = (j : Int) + (d : Int) - 1 := by
      have : subI .i64 (Int.ofNat (j + d)) 1 = ((j + d : Nat) : Int) - 1 := wrap64 (by simp; omega) (by simp; omega)
      rw [this]; omega
    show br true (grd true (br (fcmp .gtr .f32 (as.getD (j + d) 0) t) (z43 t as as.length m (subI .i64 (Int.ofNat (j + d)) 1)) _)) _ = _
    rw [ha, e3]
    exact spec_pair_down hl h1 h2 d m (by omega) (by omega)
/-- The pair of knots: their places, the angles. -/
def pairR (as : List Nat) (j : Nat) : Nat × Nat × Nat × Nat :=
  if j = 0 then (as.length - 1, 0, fop .sub .f32 (as.getD (as.length - 1) 0) 1065353216, as.getD 0 0)
  else if j = as.length then (as.length - 1, 0, as.getD (as.length - 1) 0, fop .add .f32 (as.getD 0 0) 1065353216)
  else (j - 1, j, as.getD (j - 1) 0, as.getD j 0)
theorem lss_gtr {x y : Nat} : fcmp .lss .f32 x y = fcmp .gtr .f32 y x := by
  cases hx : nanB .f32 x with
  | true => rw [(fcmp_nan .f32 (.inl hx)).2.2.1, (fcmp_nan .f32 (.inr hx)).2.2.2.2.1]
  | false =>
    cases hy : nanB .f32 y with
    | true => rw [(fcmp_nan .f32 (.inr hy)).2.2.1, (fcmp_nan .f32 (.inl hy)).2.2.2.2.1]
    | false => rw [(fcmp_num .f32 hx hy).2.2.1, (fcmp_num .f32 hy hx).2.2.2.2.1]
theorem prof_knots {as ls ds : List Nat} (h : validProfB as ls ds = true) : ∀ j, j < as.length → knotB as j = true := by
  unfold validProfB at h
  simp only [Bool.and_eq_true] at h
  intro j hj
  have := range_all.1 h.2.2.2.2 j hj
  unfold profB at this
  rw [Bool.and_eq_true] at this
  exact this.1
theorem above_mono {as ls ds : List Nat} {t j l : Nat} (hv : validProfB as ls ds = true) (ht : nanB .f32 t = false) (hj : j < as.length) (ha : aboveB as t j = true) (h1 : j ≤ l) (h2 : l < as.length) : aboveB as t l = true := by
  have hk := prof_knots hv
  have h3 := knot_lt hk (l - j) j (by omega)
  rw [show j + (l - j) = l by omega] at h3
  have n1 : nanB .f32 (as.getD j 0) = false := finW_nan (finW_of (knot_rg (hk j hj)) (by decide +kernel))
  have n2 : nanB .f32 (as.getD l 0) = false := finW_nan (finW_of (knot_rg (hk l h2)) (by decide +kernel))
  unfold aboveB at ha ⊢
  rw [(fcmp_num .f32 n1 ht).2.2.2.2.1] at ha
  rw [(fcmp_num .f32 n2 ht).2.2.2.2.1]
  have := of_decide_eq_true ha
  exact decide_eq_true (by omega)
theorem pair_eq {as ls ds : List Nat} {x : Nat} (hv : validProfB as ls ds = true) (hx : finB x = true) : ∃ j, j ≤ as.length ∧
    z3v as.length as ls.length ls ds.length ds x = some (Int.ofNat (pairR as j).1, Int.ofNat (pairR as j).2.1, (pairR as j).2.2.1, (pairR as j).2.2.2, wrapV x) ∧
    z4x as.length as ls.length ls ds.length ds x = some (Int.ofNat (pairR as j).1, Int.ofNat (pairR as j).2.1, (if fcmp .eql .f32 (fop .sub .f32 (pairR as j).2.2.2 (pairR as j).2.2.1) 0 = true then 0 else fop .quo .f32 (fop .sub .f32 (wrapV x) (pairR as j).2.2.1) (fop .sub .f32 (pairR as j).2.2.2 (pairR as j).2.2.1)), fop .sub .f32 (pairR as j).2.2.2 (pairR as j).2.2.1) := by
  obtain ⟨c1, c2, c3, c4⟩ := validProfB_len hv
  have ht := wrapV_nan hx
  obtain ⟨p1, q1⟩ := zeg (impl_wrapAngle_eq hx)
  obtain ⟨p2, q2⟩ := zfd (spec_l02Wrap_eq hx)
  have hn1 : subI .i64 (Int.ofNat as.length) 1 = Int.ofNat (as.length - 1) := subN1 (by omega) (by omega)
  have o1 : okIx (Int.ofNat (as.length - 1)) as.length = true := okIx_t (by omega)
  have o0 : okIx 0 as.length = true := okIx_t (i := 0) (by omega)
  have i0 : ixO 0 0 1 = 0 := rfl
  generalize wrapV x = t at ht q1 q2 ⊢
  rcases impl_between_find (t := t) c2 with ⟨k1, k2⟩ | ⟨j, k1, k2, k3, k4⟩
  · refine ⟨as.length, Nat.le_refl _, ?_, ?_⟩
    · obtain ⟨g1, g2, _⟩ := z84 rfl k2
      have hr : pairR as as.length = (as.length - 1, 0, as.getD (as.length - 1) 0, fop .add .f32 (as.getD 0 0) 1065353216) := by unfold pairR; rw [if_neg (by omega), if_pos rfl]
      rw [hr]
      unfold z3v z4s
      simp only [p1, q1, g1, g2, hn1, o1, o0, ix1, i0, gF, grd_true, br_false]
      rfl
    · have hd := spec_pair_down (t := t) (j := as.length) c2 k1 (fun l h1 h2 => by omega) 0 big (by omega) (big_gt (by omega))
      rw [show (as.length : Int) + ((0 : Nat) : Int) - 1 = Int.ofNat (as.length - 1) by simp; omega] at hd
      rw [show (as.length : Int) - 1 = Int.ofNat (as.length - 1) by simp; omega] at hd
      obtain ⟨g1, g2, _⟩ := zbb rfl hd
      have hr : pairR as as.length = (as.length - 1, 0, as.getD (as.length - 1) 0, fop .add .f32 (as.getD 0 0) 1065353216) := by unfold pairR; rw [if_neg (by omega), if_pos rfl]
      rw [hr]
      have e1 : ltI (Int.ofNat (as.length - 1)) 0 = false := ltI_f (by simp)
      have e2 : addI .i64 (Int.ofNat (as.length - 1)) 1 = Int.ofNat as.length := by rw [addI1 (by omega), show as.length - 1 + 1 = as.length by omega]
      have e3 : eqI (Int.ofNat as.length) (Int.ofNat as.length) = true := by simp [eqI]
      have e4 : fcmp .lss .f32 t (as.getD 0 0) = false := by rw [lss_gtr]; exact k1 0 (by omega)
      have e5 : eqI 0 0 = true := rfl
      unfold z4x z6l
      simp only [p2, q2, hn1, g1, g2, e1, e2, e3, e4, e5, o1, o0, ix1, i0, gF, grd_true, br_false, br_true]
      rw [br_if]
      split <;> rfl
  · refine ⟨j, by omega, ?_, ?_⟩
    · obtain ⟨g1, g2, g3⟩ := z85 rfl k4
      unfold z3v z4s
      simp only [p1, q1, g1, g2, g3, grd_true, br_true]
      by_cases h0 : j = 0
      · subst h0
        have hr : pairR as 0 = (as.length - 1, 0, fop .sub .f32 (as.getD (as.length - 1) 0) 1065353216, as.getD 0 0) := by unfold pairR; rw [if_pos rfl]
        rw [hr, eqN0]
        simp only [hn1, o1, o0, ix1, i0, gF, grd_true, br_true, decide_eq_true (rfl : (0 : Nat) = 0)]
        rfl
      · have hr : pairR as j = (j - 1, j, as.getD (j - 1) 0, as.getD j 0) := by unfold pairR; rw [if_neg h0, if_neg (by omega)]
        rw [hr, eqN0, decide_eq_false h0, show ltI (Int.ofNat j) 0 = false from ltI_f (by simp), subN1 h0 (by omega), okIx_t (show j - 1 < as.length by omega), okIx_t k1, ix1, ix1]
        rfl
    · have hd := spec_pair_down (t := t) (j := j) c2 k3 (fun l h1 h2 => above_mono hv ht k1 k2 h1 h2) (as.length - j) big (by omega) (big_gt (by omega))
      rw [show (j : Int) + ((as.length - j : Nat) : Int) - 1 = Int.ofNat (as.length - 1) by simp; omega] at hd
      obtain ⟨g1, g2, _⟩ := zbb rfl hd
      have e5 : eqI 0 0 = true := rfl
      unfold z4x z6l
      by_cases h0 : j = 0
      · subst h0
        have hr : pairR as 0 = (as.length - 1, 0, fop .sub .f32 (as.getD (as.length - 1) 0) 1065353216, as.getD 0 0) := by unfold pairR; rw [if_pos rfl]
        rw [hr]
        have e1 : ltI (((0 : Nat) : Int) - 1) 0 = true := rfl
        have e4 : fcmp .lss .f32 t (as.getD 0 0) = true := by rw [lss_gtr]; exact k2
        simp only [p2, q2, hn1, g1, g2, e1, e4, e5, o1, o0, ix1, i0, gF, grd_true, br_true]
        rw [br_if]
        split <;> rfl
      · have hr : pairR as j = (j - 1, j, as.getD (j - 1) 0, as.getD j 0) := by unfold pairR; rw [if_neg h0, if_neg (by omega)]
        rw [hr]
        have e0 : (j : Int) - 1 = Int.ofNat (j - 1) := by simp; omega
        rw [e0] at g2
        have e1 : ltI (Int.ofNat (j - 1)) 0 = false := ltI_f (by simp)
        have e2 : addI .i64 (Int.ofNat (j - 1)) 1 = Int.ofNat j := by rw [addI1 (by omega), show j - 1 + 1 = j by omega]
        have e3 : eqI (Int.ofNat j) (Int.ofNat as.length) = false := by unfold eqI; exact decide_eq_false (by simp; omega)
        have e6 : eqI (Int.ofNat j) 0 = false := by rw [eqN0]; exact decide_eq_false h0
        simp only [p2, q2, hn1, g1, g2, e1, e2, e3, e6, okIx_t (show j - 1 < as.length by omega), okIx_t k1, ix1, gF, grd_true, br_false]
        rw [br_if]
        split <;> rfl
theorem knots_fin {as ls ds : List Nat} {j : Nat} (hv : validProfB as ls ds = true) (hj : j ≤ as.length) : finW .f32 (pairR as j).2.2.1 = true ∧ finW .f32 (pairR as j).2.2.2 = true ∧ (pairR as j).1 < as.length ∧ (pairR as j).2.1 < as.length := by
  obtain ⟨c1, c2, c3, c4⟩ := validProfB_len hv
  have hk := prof_knots hv
  have hf : ∀ i, i < as.length → rg FloatKind.f32.format (as.getD i 0) ≤ 1056964608 := fun i hi => knot_rg (hk i hi)
  have h1 : ∀ i, i < as.length → finW .f32 (as.getD i 0) = true := fun i hi => finW_of (hf i hi) (by decide +kernel)
  unfold pairR
  split
  · refine ⟨?_, h1 0 (by omega), by show as.length - 1 < as.length; omega, by show 0 < as.length; omega⟩
    exact finW_of (sub_rg (c := 1073741824) (hf _ (by omega)) (show rg FloatKind.f32.format 1065353216 ≤ 1065353216 by decide +kernel) (by decide +kernel) (by decide +kernel) (by decide +kernel)) (by decide +kernel)
  · split
    · refine ⟨h1 _ (by omega), ?_, by show as.length - 1 < as.length; omega, by show 0 < as.length; omega⟩
      exact finW_of (add_rg (c := 1073741824) (hf _ (by omega)) (show rg FloatKind.f32.format 1065353216 ≤ 1065353216 by decide +kernel) (by decide +kernel) (by decide +kernel) (by decide +kernel)) (by decide +kernel)
    · exact ⟨h1 _ (by omega), h1 _ (by omega), by show j - 1 < as.length; omega, by show j < as.length; omega⟩
theorem at_eq {as ls ds xs : List Nat} {x : Nat} (hv : validProfB as ls ds = true) (hx : finB x = true) (hl : xs.length = as.length) :
    ∃ v, z65 as.length as ls.length ls ds.length ds xs.length xs x = some v ∧ z9i as.length as ls.length ls ds.length ds xs.length xs x = some v := by
  obtain ⟨j, hj, h1, h2⟩ := pair_eq hv hx
  obtain ⟨f1, f2, f3, f4⟩ := knots_fin hv hj
  generalize pairR as j = P at *
  obtain ⟨a, b, low, high⟩ := P
  simp only at h1 h2 f1 f2 f3 f4
  obtain ⟨i0, i1, i2, i3, i4, i5⟩ := zc5 h1
  obtain ⟨s0, s1, s2, s3, s4⟩ := zf9 h2
  have hne : fcmp .neq .f32 low high = !fcmp .eql .f32 (fop .sub .f32 high low) 0 := by rw [sub_zero f2 f1, neq_eql (finW_nan f1) (finW_nan f2)]
  have oa : okIx (Int.ofNat a) xs.length = true := okIx_t (by omega)
  have ob : okIx (Int.ofNat b) xs.length = true := okIx_t (by omega)
  refine ⟨mixed (xs.getD a 0) (xs.getD b 0) (if fcmp .eql .f32 (fop .sub .f32 high low) 0 = true then 0 else fop .quo .f32 (fop .sub .f32 (wrapV x) low) (fop .sub .f32 high low)), ?_, ?_⟩
  · unfold z65 z66
    have m := fun p q s => zfx (show zah p q s = some (mixed p q s) from rfl)
    simp only [pF_all, i0, i1, i2, i3, i4, i5, hne, oa, ob, ix1, gF, grd_true, (m _ _ _).1, (m _ _ _).2]
    cases fcmp .eql .f32 (fop .sub .f32 high low) 0 <;> rfl
  · unfold z9i z9g
    simp only [pF_all, s0, s1, s2, s3, s4, oa, ob, ix1, gF, grd_true]
    rfl
theorem l02Can_eq {as ls ds : List Nat} (x : Nat) : z8e as.length as ls.length ls ds.length ds x = some (validProfB as ls ds && finB x) := by
  obtain ⟨p1, q1⟩ := zfv (spec_l02Is_eq (as := as) (ls := ls) (ds := ds))
  obtain ⟨p2, q2⟩ := z68 (spec_l01Finite_eq x)
  unfold z8e z8g
  simp only [pF_all, p1, q1, p2, q2, grd_true]
  cases validProfB as ls ds <;> rfl
theorem LiftAt_eq {as ls ds : List Nat} (x : Nat) (hl : ls.length < 281474976710656) (hd : ds.length < 281474976710656) :
    ∃ v, z78 as.length as ls.length ls ds.length ds x = some (if (validProfB as ls ds && finB x) = true then (checkV v, finB v) else (0, false)) ∧
      ((validProfB as ls ds && finB x) = true → z7n as.length as ls.length ls ds.length ds x = some v) := by
  obtain ⟨p1, q1⟩ := zb9 (impl_ValidProfile_eq (as := as) hl hd)
  obtain ⟨p2, q2⟩ := z7z (impl_IsFinite_eq x)
  unfold z78 z8d
  simp only [pF_all, p1, q1, p2, q2, grd_true]
  cases hv : validProfB as ls ds
  · exact ⟨0, rfl, fun h => by cases h⟩
  · cases hx : finB x
    · exact ⟨0, rfl, fun h => by cases h⟩
    · obtain ⟨c1, c2, c3, c4⟩ := validProfB_len hv
      obtain ⟨v, h1, h2⟩ := at_eq hv hx c3
      obtain ⟨p3, q3⟩ := zbf h1
      obtain ⟨p4, q4, r4⟩ := zba (impl_checked_eq v)
      obtain ⟨p5, q5⟩ := zdi h2
      refine ⟨v, ?_, fun _ => ?_⟩
      · simp only [p3, q3, p4, q4, r4, grd_true, bnot_true, br_false, Bool.and_self, if_true]
      · unfold z7n z7m
        simp only [pF_all, p5, q5, grd_true]
theorem DragAt_eq {as ls ds : List Nat} (x : Nat) (hl : ls.length < 281474976710656) (hd : ds.length < 281474976710656) :
    ∃ v, z77 as.length as ls.length ls ds.length ds x = some (if (validProfB as ls ds && finB x) = true then (checkV v, finB v) else (0, false)) ∧
      ((validProfB as ls ds && finB x) = true → z7r as.length as ls.length ls ds.length ds x = some v) := by
  obtain ⟨p1, q1⟩ := zb9 (impl_ValidProfile_eq (as := as) hl hd)
  obtain ⟨p2, q2⟩ := z7z (impl_IsFinite_eq x)
  unfold z77 z8f
  simp only [pF_all, p1, q1, p2, q2, grd_true]
  cases hv : validProfB as ls ds
  · exact ⟨0, rfl, fun h => by cases h⟩
  · cases hx : finB x
    · exact ⟨0, rfl, fun h => by cases h⟩
    · obtain ⟨c1, c2, c3, c4⟩ := validProfB_len hv
      obtain ⟨v, h1, h2⟩ := at_eq hv hx c4
      obtain ⟨p3, q3⟩ := zbf h1
      obtain ⟨p4, q4, r4⟩ := zba (impl_checked_eq v)
      obtain ⟨p5, q5⟩ := zdi h2
      refine ⟨v, ?_, fun _ => ?_⟩
      · simp only [p3, q3, p4, q4, r4, grd_true, bnot_true, br_false, Bool.and_self, if_true]
      · unfold z7r z7l
        simp only [pF_all, p5, q5, grd_true]
theorem GlideAt_ex {as ls ds : List Nat} (x : Nat) (hl : ls.length < 281474976710656) (hd : ds.length < 281474976710656) :
    ∃ r, z6g as.length as ls.length ls ds.length ds x = some r ∧ z6k as.length as ls.length ls ds.length ds x = some r := by
  obtain ⟨v, h1, h2⟩ := LiftAt_eq (as := as) x hl hd
  obtain ⟨p1, q1, r1⟩ := zfn h1
  obtain ⟨w, h3, h4⟩ := DragAt_eq (as := as) x hl hd
  obtain ⟨p2, q2, r2⟩ := zfr h3
  obtain ⟨p3, q3⟩ := zfs (l02Can_eq (as := as) (ls := ls) (ds := ds) x)
  unfold z6g z7k z6k z7q
  simp only [pF_all, p1, q1, r1, p2, q2, r2, p3, q3, grd_true]
  cases hc : validProfB as ls ds && finB x
  · exact ⟨_, rfl, rfl⟩
  · obtain ⟨p4, q4⟩ := zfi (h2 hc)
    obtain ⟨p5, q5⟩ := zfg (h4 hc)
    obtain ⟨p6, q6⟩ := z68 (spec_l01Finite_eq v)
    obtain ⟨p7, q7⟩ := z68 (spec_l01Finite_eq w)
    obtain ⟨p8, q8, r8⟩ := ze6 (spec_l02Number_eq (fop .quo .f32 v w))
    obtain ⟨p9, q9, r9⟩ := zba (impl_checked_eq (fop .quo .f32 v w))
    simp only [p4, q4, p5, q5, p6, q6, p7, q7, p8, q8, r8, grd_true, bnot_true, br_false, if_true]
    cases hf : finB v
    · exact ⟨_, rfl, rfl⟩
    · cases hg : finB w
      · exact ⟨_, rfl, rfl⟩
      · have hk : checkV v = v := by unfold checkV; rw [if_pos hf]
        have hk2 : checkV w = w := by unfold checkV; rw [if_pos hg]
        rw [hk, hk2, p9, q9, r9]
        exact ⟨_, rfl, rfl⟩
theorem prof_law {as ls ds : List Nat} (ma : as.length ≤ maxLen) (ml : ls.length ≤ maxLen) (md : ds.length ≤ maxLen) : ∃ r, z7x as.length as ls.length ls ds.length ds 1048576 = true ∧ z7c as.length as ls.length ls ds.length ds 1048576 = r ∧
    (r < 0 ∨ (ltI r 0 = false ∧ as.length + ls.length + ds.length ≤ 1048576 ∧ z5m as.length as ls.length ls ds.length ds = true ∧ z2e as.length as ls.length ls ds.length ds = as.length ∧ z2f as.length as ls.length ls ds.length ds = ls.length ∧ z2h as.length as ls.length ls ds.length ds = ds.length ∧
      z3k as.length as ls.length ls ds.length ds = as ∧ z3j as.length as ls.length ls ds.length ds = ls ∧ z3l as.length as ls.length ls ds.length ds = ds ∧
      z82 as.length as ls.length ls ds.length ds as.length as ls.length ls ds.length ds = true ∧ z7b as.length as ls.length ls ds.length ds as.length as ls.length ls ds.length ds = true)) := by
  obtain ⟨r1, h1, k1, _⟩ := laws_szProfile_eq (left := 1048576) ma ml md (by decide) (by decide)
  obtain ⟨p1, q1⟩ := ze8 h1
  refine ⟨r1, p1, q1, ?_⟩
  by_cases c1 : r1 < 0
  · exact .inl c1
  · have l1 := k1 (by omega)
    obtain ⟨p3, a3, b3, d3, e3, f3, g3⟩ := zeh (laws_toProfile_eq (as := as) (ls := ls) (ds := ds) (by omega) (by omega) (by omega))
    obtain ⟨p7, q7⟩ := zei (laws_eqProfile_refl (as := as) (ls := ls) (ds := ds) (by omega) (by omega) (by omega))
    exact .inr ⟨ltI_f c1, l1, p3, a3, b3, d3, e3, f3, g3, p7, q7⟩
theorem plain_FnExactGlideAt {as ls ds : List Nat} {x : Nat} (ka : ∀ x ∈ as, canW .f32 x) (ma : as.length ≤ maxLen) (kl : ∀ x ∈ ls, canW .f32 x) (ml : ls.length ≤ maxLen) (kd : ∀ x ∈ ds, canW .f32 x) (md : ds.length ≤ maxLen) (kx : canW .f32 x) :
    z50 as.length as ls.length ls ds.length ds x = some true := by
  obtain ⟨r, p1, q1, h⟩ := prof_law ma ml md
  unfold z50 z51
  simp only [pF_all, p1, q1, grd_true]
  rcases h with h | ⟨e, l, p3, a3, b3, d3, e3, f3, g3, p7, q7⟩
  · rw [ltI_t h]; rfl
  · obtain ⟨v, h1, h2⟩ := GlideAt_ex (as := as) (ls := ls) (ds := ds) x (by omega) (by omega)
    obtain ⟨p4, q4, r4⟩ := zff h1
    obtain ⟨p5, q5, r5⟩ := zfc h2
    obtain ⟨p6, q6⟩ := zbj (laws_sameFloat_refl (fcvV .f32 .f64 v.1))
    simp only [e, p3, a3, b3, d3, e3, f3, g3, pF_all, p4, q4, r4, p5, q5, r5, p6, q6, p7, q7, grd_true, br_false, bnot_true, beqB_self]
end Go.Rf
