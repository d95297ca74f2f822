/-
  Plain laws.
-/
import Derived.Test.YtcbldlfdjabeaaaAddKnotP
set_option linter.unusedVariables false
set_option linter.unusedSimpArgs false
set_option maxRecDepth 100000
set_option maxHeartbeats 4000000
namespace Go.Rf
open Go
def finB (x : Nat) : Bool := fcmp .eql .f32 (fop .sub .f32 x x) 0
def leastB (x : Nat) : Bool := finB x && fcmp .geq .f32 x 0
theorem impl_IsFinite_eq (x : Nat) : z6e x = some (finB x) := rfl
theorem spec_l01Finite_eq (x : Nat) : z61 x = some (finB x) := rfl
theorem impl_isLeast_eq (x : Nat) : z5v x = some (leastB x) := by
  obtain ⟨h1, h2⟩ := zcr (impl_IsFinite_eq x)
  unfold z5v z5w leastB
  rw [h1, h2]
  cases finB x <;> rfl
theorem spec_l02Least_eq (x : Nat) : z5f x = some (leastB x) := by
  obtain ⟨h1, h2⟩ := zcc (spec_l01Finite_eq x)
  unfold z5f z5j leastB
  rw [h1, h2]
  cases finB x <;> rfl
theorem impl_areLeast_1_eq (x : Nat) : z4q x = some (!leastB x) := by
  obtain ⟨h1, h2⟩ := zgp (impl_isLeast_eq x)
  unfold z4q z4h
  rw [h1, h2]; rfl
theorem laws_sameFloat_refl (x : Nat) : z50 x x = some true := by
  unfold z50 z59
  simp only [neq_self]
  cases hn : nanB .f64 x with
  | true => rfl
  | false =>
    have he : fcmp .eql .f64 x x = true := by rw [(fcmp_num .f64 hn hn).1]; simp
    simp only [br_if, Bool.false_eq_true, if_false, he, beqB, BEq.rfl]
    split <;> rfl
theorem slices_IndexFunc_areLeast {xs : List Nat} (hl : xs.length < 281474976710656) : ∃ r : Int, z16 xs.length xs = some r ∧ leI 0 r = !xs.all leastB := by
  unfold z16 z17
  rcases scan_all (L := z04 xs.length (Int.ofNat xs.length) xs) xs leastB (g := fun i => Int.ofNat i) (e := (Int.ofNat xs.length, false))
    (fun n i hi => by
      rw [z37]; unfold z0f; rw [ltN_t hi, okIx_t hi, ix1, addI1 (by omega)]
      simp only [gF]
      generalize xs.getD i 0 = x
      obtain ⟨h1, h2⟩ := zff (impl_areLeast_1_eq x)
      simp only [br_if, grd_true, h1, h2]
      rcases Bool.eq_false_or_eq_true (leastB x) with h | h <;> simp [h])
    (fun n => by rw [z37]; unfold z0f; rw [ltN_f (Nat.le_refl _)]; rfl) hl with ⟨h1, h2⟩ | ⟨j, h2, h3, h4⟩
  · obtain ⟨g1, g2, _⟩ := z7a rfl h2
    exact ⟨Int.negSucc 0, by rw [g1, g2]; rfl, by rw [h1]; rfl⟩
  · obtain ⟨g1, g2, g3⟩ := z76 rfl h4
    exact ⟨Int.ofNat j, by rw [g1, g2, g3]; rfl, by rw [h3]; exact decide_eq_true (by simp)⟩
theorem slices_ContainsFunc_areLeast {xs : List Nat} (hl : xs.length < 281474976710656) : z11 xs.length xs = some (!xs.all leastB) := by
  obtain ⟨r, h1, h2⟩ := slices_IndexFunc_areLeast hl
  obtain ⟨g1, g2⟩ := z9b h1
  unfold z11 z13
  rw [pF_all, g1, g2, h2]; rfl
theorem impl_areLeast_eq {xs : List Nat} (hl : xs.length < 281474976710656) : z5i xs.length xs = some (xs.all leastB) := by
  obtain ⟨g1, g2⟩ := z81 (slices_ContainsFunc_areLeast hl)
  unfold z5i z5e
  rw [pF_all, g1, g2]
  simp [grd_true, bnot]
def fromToB (x low high : Nat) : Bool := fcmp .geq .f32 x low && fcmp .leq .f32 x high
theorem impl_isFromTo_eq (x low high : Nat) : z5d x low high = some (fromToB x low high) := by
  unfold z5d z5k fromToB
  rcases Bool.eq_false_or_eq_true (fcmp .geq .f32 x low) with h | h <;> simp [h, br_if]
theorem laws_szFloat32S_eq (n : Nat) (xs : List Nat) (left : Int) : ∃ r, z4k n xs left = some r ∧ (0 ≤ left → left ≤ 1048576 → n ≤ 9223372036854775807 → (0 ≤ r → r = left - n ∧ (n : Int) ≤ left) ∧ r ≤ 1048576) := by
  unfold z4k z4p
  by_cases h : subI .i64 left (Int.ofNat n) < 0
  · rw [ltI_t h]
    exact ⟨_, rfl, fun _ _ _ => ⟨fun q => by simp at q, by decide⟩⟩
  · rw [ltI_f h]
    refine ⟨_, rfl, fun h1 h2 h3 => ?_⟩
    have e : subI .i64 left (Int.ofNat n) = left - n := wrap64 (by simp; omega) (by simp; omega)
    rw [e] at h ⊢
    exact ⟨fun _ => ⟨rfl, by omega⟩, by omega⟩
theorem laws_toFloat32S_eq {xs : List Nat} (hl : xs.length ≤ 1099511627776) : z38 xs.length xs = some (xs.length, xs) := by
  have hf := folds (L := z18 xs.length xs.length xs) (len := xs.length) (fun i s => s.set i (xs.getD i 0)) (e := fun s => (Int.ofNat xs.length, false, s))
    (fun n i s hi => by rw [za0]; unfold z21; rw [ltN_t hi, okIx_t hi, ix1, addI1 (by omega)]; rfl)
    (fun n s => by rw [za0]; unfold z21; rw [ltN_f (Nat.le_refl _)]; rfl) xs.length 0 big (List.replicate xs.length 0) (by omega) (big_gt (by omega))
  rw [copy_fold xs _ _ _ (by omega) (by simp)] at hf
  simp only [List.take_zero, List.drop_zero, List.nil_append] at hf
  obtain ⟨g1, _, _, g2⟩ := zdh rfl hf
  have e : rF (muN (toN (Int.ofNat xs.length)) 1) = List.replicate xs.length 0 := by simp [rF, muN, toN]
  have ho : okMk (Int.ofNat xs.length) (Int.ofNat xs.length) 4 = true := decide_eq_true ⟨rfl, by simp, by simp; omega, by decide⟩
  unfold z38 z4o
  rw [e, ho, toN_nat]
  show grd (z4d xs.length xs.length xs (Int.ofNat 0) (List.replicate xs.length 0)) (some (_, z36 xs.length xs.length xs (Int.ofNat 0) (List.replicate xs.length 0))) = _
  rw [g1, g2]; rfl
theorem laws_eqFloat32S_refl {xs : List Nat} (hl : xs.length < 281474976710656) : z4l xs.length xs xs.length xs = some true := by
  have hn : neI (Int.ofNat xs.length) (Int.ofNat xs.length) = false := by simp [neI]
  unfold z4l z4m
  rw [hn]
  rcases scan_all (L := z19 xs.length xs.length xs xs) xs (fun _ => true) (g := fun i => ()) (e := (Int.ofNat xs.length, false))
    (fun n i hi => by
      obtain ⟨h1, h2⟩ := zfq (laws_sameFloat_refl (fcvV FloatKind.f32 FloatKind.f64 (gF xs i)))
      rw [z9z]; unfold z1z; rw [ltN_t hi, okIx_t hi, ix1, addI1 (by omega), h1, h2]
      rfl)
    (fun n => by rw [z9z]; unfold z1z; rw [ltN_f (Nat.le_refl _)]; rfl) hl with ⟨h1, h2⟩ | ⟨j, h2, h3, h4⟩
  · obtain ⟨g1, g2, _⟩ := zdb rfl h2
    rw [g1, g2]; rfl
  · simp at h3
theorem beqB_self (b : Bool) : beqB b b = true := by cases b <;> rfl
theorem neI_self (i : Int) : neI i i = false := by simp [neI]
theorem bnot_true : bnot true = false := rfl
theorem ltN (a b : Nat) : ltI (Int.ofNat a) (Int.ofNat b) = decide (a < b) := by by_cases h : a < b <;> simp [ltI, h] <;> omega
theorem get_mem {xs : List Nat} {i : Nat} (h : i < xs.length) : xs.getD i 0 ∈ xs := by
  rw [List.getD_eq_getElem?_getD, List.getElem?_eq_getElem h]; exact List.getElem_mem _
def marks (k0 : Int) (n : Nat) : List Nat := (List.range n).map fun (j : Nat) => fOI .f32 (k0 + (j : Int))
theorem marks_length (k0 : Int) (n : Nat) : (marks k0 n).length = n := by simp [marks]
theorem marks_get {k0 : Int} {n i : Nat} (h : i < n) : (marks k0 n).getD i 0 = fOI .f32 (k0 + (i : Int)) := by
  simp [marks, List.getD_eq_getElem?_getD, h]
theorem fOI_nan (k : FloatKind) (n : Int) : nanB k (fOI k n) = false := by
  rw [show fOI k n = floatOfInt k n from rfl, fOI_eq]
  exact nanB_word k _ (rnd_inf _ _ _)
theorem addI_in {a b : Int} (h1 : -9223372036854775808 ≤ a + b) (h2 : a + b ≤ 9223372036854775807) : addI .i64 a b = a + b := wrap64 h1 h2
theorem mark_loop {L : Nat → Int → Int → List Nat → Option (Int × Int × Bool × List Nat)} {len : Nat} {k0 : Int} {ys : List Nat} (hy : ys.length = len) (hk : 0 ≤ k0) (hk2 : k0 ≤ 1099511627776) (hl : len < 281474976710656)
    (hs : ∀ n k i b, L (n + 1) k i b = br (ltI i (Int.ofNat len)) (grd (okIx i len) (L n (addI .i64 k 1) (addI .i64 i 1) (sF b (ixO 0 i 1) (fOI .f32 k)))) (some (k, i, ltI i (Int.ofNat len), b))) :
    L big k0 0 ys = some (k0 + (len : Int), Int.ofNat len, false, marks k0 len) := by
  have hf := folds (L := fun n i s => L n (k0 + i) i s) (len := len) (fun i s => s.set i ((marks k0 len).getD i 0)) (e := fun s => (k0 + (len : Int), Int.ofNat len, false, s))
    (fun n i s hi => by
      show L _ _ _ _ = L _ _ _ _
      rw [hs, ltN_t hi, okIx_t hi, ix1, addI1 (by omega), addI_in (by simp; omega) (by simp; omega), marks_get hi]
      have : k0 + Int.ofNat i + 1 = k0 + Int.ofNat (i + 1) := by simp; omega
      rw [this]; rfl)
    (fun n s => by show L _ _ _ _ = _; rw [hs, ltN_f (Nat.le_refl _)]; rfl) len 0 big ys (by omega) (big_gt hl)
  have hm := copy_fold (marks k0 len) len 0 ys (by simp [marks_length]) (by rw [marks_length, hy])
  rw [hm] at hf
  simpa using hf
theorem laws_heldFloat32S_eq {k0 : Int} {n : Nat} (hk : 0 ≤ k0) (hk2 : k0 ≤ 1099511627776) (hl : n < 281474976710656) : z3f n (marks k0 n) k0 = some (k0 + (n : Int)) := by
  unfold z3f z3d
  rcases scan (L := fun m i => z0h n (marks k0 n) m (k0 + i) i) (len := n) (fun _ => true) (g := fun _ => ()) (e := (k0 + (n : Int), Int.ofNat n, false))
    (fun m i hi => by
      show z0h _ _ _ _ _ = _
      rw [z8g]; unfold z1k
      rw [ltN_t hi, okIx_t hi, ix1, addI1 (by omega), addI_in (by simp; omega) (by simp; omega)]
      have e : fcmp .neq .f32 (gF (marks k0 n) i) (fOI .f32 (k0 + Int.ofNat i)) = false := by
        show fcmp .neq .f32 ((marks k0 n).getD i 0) _ = false
        rw [marks_get hi]
        show fcmp .neq .f32 (fOI .f32 (k0 + Int.ofNat i)) (fOI .f32 (k0 + Int.ofNat i)) = false
        rw [neq_self, fOI_nan]
      have : k0 + Int.ofNat i + 1 = k0 + Int.ofNat (i + 1) := by simp; omega
      rw [e, this]; rfl)
    (fun m => by show z0h _ _ _ _ _ = _; rw [z8g]; unfold z1k; rw [ltN_f (Nat.le_refl _)]; rfl) n 0 big (by omega) (big_gt hl) with ⟨k1, k2⟩ | ⟨j, k1, k2, k3, k4⟩
  · have k2 : z0h n (marks k0 n) big k0 0 = some (Sum.inr (k0 + (n : Int), Int.ofNat n, false)) := by simpa using k2
    obtain ⟨g1, g2, g3, _⟩ := zcu rfl k2
    rw [g1, g2, g3]; rfl
  · cases k3
theorem take_succ_getD {ys : List Nat} {i : Nat} (h : i < ys.length) : ys.take i ++ [ys.getD i 0] = ys.take (i + 1) := by
  rw [List.take_succ_eq_append_getElem h]; simp [List.getD_eq_getElem?_getD, h]
theorem okA2_1 {n : Nat} {b : List Nat} (x : Nat) (hb : b.length = n) (hn : n < 1099511627776) : okA2 n 1 4 (nF (pF [x] 0 (muN 1 1))) (nF b) 1 = true :=
  decide_eq_true ⟨by omega, by omega, by simp [nF, pF, muN], by simp [nF, hb]⟩
theorem impl_areFinite_1_eq (x : Nat) : z3z x = some (!finB x) := by
  obtain ⟨h1, h2⟩ := zcr (impl_IsFinite_eq x)
  unfold z3z z3r
  rw [h1, h2]; rfl
theorem slices_IndexFunc_areFinite {xs : List Nat} (hl : xs.length < 281474976710656) : ∃ r : Int, z14 xs.length xs = some r ∧ leI 0 r = !xs.all finB := by
  unfold z14 z15
  rcases scan_all (L := z03 xs.length (Int.ofNat xs.length) xs) xs finB (g := fun i => Int.ofNat i) (e := (Int.ofNat xs.length, false))
    (fun n i hi => by
      rw [z34]; unfold z0e; rw [ltN_t hi, okIx_t hi, ix1, addI1 (by omega)]
      simp only [gF]
      generalize xs.getD i 0 = x
      obtain ⟨h1, h2⟩ := zf5 (impl_areFinite_1_eq x)
      simp only [br_if, grd_true, h1, h2]
      rcases Bool.eq_false_or_eq_true (finB x) with h | h <;> simp [h])
    (fun n => by rw [z34]; unfold z0e; rw [ltN_f (Nat.le_refl _)]; rfl) hl with ⟨h1, h2⟩ | ⟨j, h2, h3, h4⟩
  · obtain ⟨g1, g2, _⟩ := z6y rfl h2
    exact ⟨Int.negSucc 0, by rw [g1, g2]; rfl, by rw [h1]; rfl⟩
  · obtain ⟨g1, g2, g3⟩ := z6u rfl h4
    exact ⟨Int.ofNat j, by rw [g1, g2, g3]; rfl, by rw [h3]; exact decide_eq_true (by simp)⟩
theorem slices_ContainsFunc_areFinite {xs : List Nat} (hl : xs.length < 281474976710656) : z0w xs.length xs = some (!xs.all finB) := by
  obtain ⟨r, h1, h2⟩ := slices_IndexFunc_areFinite hl
  obtain ⟨g1, g2⟩ := z94 h1
  unfold z0w z0z
  rw [pF_all, g1, g2, h2]; rfl
theorem impl_areFinite_eq {xs : List Nat} (hl : xs.length < 281474976710656) : z54 xs.length xs = some (xs.all finB) := by
  obtain ⟨g1, g2⟩ := z7e (slices_ContainsFunc_areFinite hl)
  unfold z54 z52
  rw [pF_all, g1, g2]
  simp [grd_true, bnot]
theorem laws_szProfile_eq {as ls ds : List Nat} {left : Int} (ha : as.length ≤ maxLen) (hl : ls.length ≤ maxLen) (hd : ds.length ≤ maxLen) (h0 : 0 ≤ left) (h1 : left ≤ 1048576) :
    ∃ r, z56 as.length as ls.length ls ds.length ds left = some r ∧ (0 ≤ r → as.length + ls.length + ds.length ≤ 1048576) ∧ r ≤ 1048576 := by
  have hm : maxLen = 9223372036854775807 := by decide
  rw [hm] at ha hl hd
  obtain ⟨r1, h2, k1⟩ := laws_szFloat32S_eq as.length as left
  obtain ⟨p1, q1⟩ := zac h2
  obtain ⟨k1, k1'⟩ := k1 h0 h1 ha
  obtain ⟨r2, h3, k2⟩ := laws_szFloat32S_eq ls.length ls r1
  obtain ⟨p2, q2⟩ := zac h3
  obtain ⟨r3, h4, k3⟩ := laws_szFloat32S_eq ds.length ds r2
  obtain ⟨p3, q3⟩ := zac h4
  unfold z56 z51
  simp only [pF_all, p1, q1, grd_true, p2, q2, p3, q3]
  by_cases c1 : r1 < 0
  · rw [ltI_t c1]
    exact ⟨_, rfl, fun h => by simp at h, by decide⟩
  · rw [ltI_f c1]
    obtain ⟨e1, e2⟩ := k1 (by omega)
    obtain ⟨k2, k2'⟩ := k2 (by omega) (by omega) hl
    by_cases c2 : r2 < 0
    · rw [ltI_t c2]
      exact ⟨_, rfl, fun h => by simp at h, by decide⟩
    · rw [ltI_f c2]
      obtain ⟨e3, e4⟩ := k2 (by omega)
      obtain ⟨k3, k3'⟩ := k3 (by omega) (by omega) hd
      by_cases c3 : r3 < 0
      · rw [ltI_t c3]
        exact ⟨_, rfl, fun h => by simp at h, by decide⟩
      · rw [ltI_f c3]
        obtain ⟨e5, e6⟩ := k3 (by omega)
        exact ⟨_, rfl, fun h => by omega, by omega⟩
theorem laws_toProfile_eq {as ls ds : List Nat} (ha : as.length ≤ 1099511627776) (hl : ls.length ≤ 1099511627776) (hd : ds.length ≤ 1099511627776) : z26 as.length as ls.length ls ds.length ds = some (as.length, ls.length, ds.length, as, ls, ds) := by
  obtain ⟨p1, q1, r1⟩ := zad (laws_toFloat32S_eq ha)
  obtain ⟨p2, q2, r2⟩ := zad (laws_toFloat32S_eq hl)
  obtain ⟨p3, q3, r3⟩ := zad (laws_toFloat32S_eq hd)
  unfold z26 z58
  simp only [pF_all, p1, q1, r1, p2, q2, r2, p3, q3, r3, grd_true]
theorem laws_eqProfile_refl {as ls ds : List Nat} (ha : as.length < 281474976710656) (hl : ls.length < 281474976710656) (hd : ds.length < 281474976710656) : z53 as.length as ls.length ls ds.length ds as.length as ls.length ls ds.length ds = some true := by
  obtain ⟨p1, q1⟩ := zab (laws_eqFloat32S_refl ha)
  obtain ⟨p2, q2⟩ := zab (laws_eqFloat32S_refl hl)
  obtain ⟨p3, q3⟩ := zab (laws_eqFloat32S_refl hd)
  unfold z53 z55
  simp only [pF_all, p1, q1, p2, q2, p3, q3, grd_true]
  rfl
def knotB (as : List Nat) (j : Nat) : Bool := fromToB (as.getD j 0) 3204448256 1056964608 && (decide (j = 0) || !fcmp .leq .f32 (as.getD j 0) (as.getD (j - 1) 0))
def profB (as ls ds : List Nat) (j : Nat) : Bool := knotB as j && (finB (ls.getD j 0) && leastB (ds.getD j 0))
def validProfB (as ls ds : List Nat) : Bool := decide (2 ≤ as.length) && (decide (as.length ≤ 24) && (decide (ls.length = as.length) && (decide (ds.length = as.length) && (List.range as.length).all (profB as ls ds))))
theorem range_all {n : Nat} {p : Nat → Bool} : (List.range n).all p = true ↔ ∀ j, j < n → p j = true := by simp [List.all_eq_true]
theorem geq_leq {x y : Nat} : fcmp .geq .f32 x y = fcmp .leq .f32 y x := by
  cases hx : nanB .f32 x with
  | true => rw [(fcmp_nan .f32 (.inl hx)).2.2.2.2.2, (fcmp_nan .f32 (.inr hx)).2.2.2.1]
  | false =>
    cases hy : nanB .f32 y with
    | true => rw [(fcmp_nan .f32 (.inr hy)).2.2.2.2.2, (fcmp_nan .f32 (.inl hy)).2.2.2.1]
    | false => rw [(fcmp_num .f32 hx hy).2.2.2.2.2, (fcmp_num .f32 hy hx).2.2.2.1]
theorem ltN0 (i : Nat) : ltI 0 (Int.ofNat i) = !decide (i = 0) := by
  rw [show ltI 0 (Int.ofNat i) = decide (0 < i) from ltN 0 i]
  by_cases h : i = 0
  · rw [decide_eq_true h, decide_eq_false (by omega)]; rfl
  · rw [decide_eq_false h, decide_eq_true (by omega)]; rfl
theorem subN1 {i : Nat} (h : i ≠ 0) (h2 : i < 4611686018427387904) : subI .i64 (Int.ofNat i) 1 = Int.ofNat (i - 1) := by
  have : subI .i64 (Int.ofNat i) 1 = (i : Int) - 1 := wrap64 (by simp; omega) (by simp; omega)
  rw [this]; simp; omega
theorem impl_ValidProfile_loop {as : List Nat} (hl : as.length ≤ 24) :
    z2h as.length (Int.ofNat as.length) as as.length 0 = true ∧ z2d as.length (Int.ofNat as.length) as as.length 0 = !(List.range as.length).all (knotB as) := by
  rcases scan (L := z0t as.length (Int.ofNat as.length) as as.length) (len := as.length) (knotB as) (g := fun _ => ()) (e := (Int.ofNat as.length, false))
    (fun n i hi => by
      rw [z8f]; unfold z1l
      obtain ⟨p1, q1⟩ := zg7 (impl_isFromTo_eq (as.getD i 0) 3204448256 1056964608)
      rw [ltN_t hi, okIx_t hi, ix1, addI1 (by omega), ltN0]
      simp only [gF, p1, q1, grd_true, br_true]
      unfold knotB
      by_cases h0 : i = 0
      · subst h0
        cases fromToB (as.getD 0 0) 3204448256 1056964608 <;> rfl
      · rw [subN1 h0 (by omega), okIx_t (show i - 1 < as.length by omega), ix1, geq_leq, decide_eq_false h0]
        cases fromToB (as.getD i 0) 3204448256 1056964608
        · rfl
        · cases fcmp .leq .f32 (as.getD i 0) (as.getD (i - 1) 0) <;> rfl)
    (fun n => by rw [z8f]; unfold z1l; rw [ltN_f (Nat.le_refl _)]; rfl) as.length 0 big (by omega) (big_gt (by omega)) with ⟨h1, h2⟩ | ⟨j, _, h2, h3, h4⟩
  · obtain ⟨g1, g2, _⟩ := zcm rfl h2
    rw [range_all.2 fun j hj => h1 j (Nat.zero_le _) hj]
    exact ⟨g1, g2⟩
  · obtain ⟨g1, g2⟩ := zcq rfl h4
    have : (List.range as.length).all (knotB as) = false := by
      cases hh : (List.range as.length).all (knotB as) with
      | false => rfl
      | true => rw [range_all.1 hh j h2] at h3; cases h3
    rw [this]
    exact ⟨g1, g2⟩
theorem all_getD {xs : List Nat} {p : Nat → Bool} : xs.all p = true ↔ ∀ j, j < xs.length → p (xs.getD j 0) = true := by
  rw [List.all_eq_true]
  constructor
  · intro h j hj; exact h _ (get_mem hj)
  · intro h x hx
    obtain ⟨i, hi, rfl⟩ := List.getElem_of_mem hx
    have := h i hi
    simpa [List.getD_eq_getElem?_getD, hi] using this
theorem ltN2 (n : Nat) : ltI (Int.ofNat n) 2 = !decide (2 ≤ n) := by
  rw [show ltI (Int.ofNat n) 2 = decide (n < 2) from ltN n 2]
  by_cases h : 2 ≤ n
  · rw [decide_eq_true h, decide_eq_false (by omega)]; rfl
  · rw [decide_eq_false h, decide_eq_true (by omega)]; rfl
theorem gtN (c n : Nat) : ltI (Int.ofNat c) (Int.ofNat n) = !decide (n ≤ c) := by
  rw [ltN]
  by_cases h : n ≤ c
  · rw [decide_eq_true h, decide_eq_false (by omega)]; rfl
  · rw [decide_eq_false h, decide_eq_true (by omega)]; rfl
theorem neN (m n : Nat) : neI (Int.ofNat m) (Int.ofNat n) = !decide (m = n) := by
  unfold neI
  by_cases h : m = n
  · subst h; simp
  · rw [decide_eq_false h]; simp; omega
theorem impl_ValidProfile_eq {as ls ds : List Nat} (hl : ls.length < 281474976710656) (hd : ds.length < 281474976710656) : z3e as.length as ls.length ls ds.length ds = some (validProfB as ls ds) := by
  obtain ⟨p1, q1⟩ := zfm (impl_areFinite_eq hl)
  obtain ⟨p2, q2⟩ := zg6 (impl_areLeast_eq hd)
  unfold z3e z3c validProfB
  rw [ltN2, show ltI 24 (Int.ofNat as.length) = !decide (as.length ≤ 24) from gtN 24 _, neN, neN]
  simp only [pF_all, p1, q1, p2, q2, grd_true]
  by_cases c1 : 2 ≤ as.length
  · by_cases c2 : as.length ≤ 24
    · by_cases c3 : ls.length = as.length
      · by_cases c4 : ds.length = as.length
        · obtain ⟨g1, g2⟩ := impl_ValidProfile_loop c2
          rw [decide_eq_true c1, decide_eq_true c2, decide_eq_true c3, decide_eq_true c4, g1, g2]
          have key : (List.range as.length).all (profB as ls ds) = (ls.all finB && (ds.all leastB && (List.range as.length).all (knotB as))) := by
            rw [Bool.eq_iff_iff, Bool.and_eq_true, Bool.and_eq_true, range_all, range_all, all_getD, all_getD, c3, c4]
            constructor
            · intro h
              refine ⟨fun j hj => ?_, fun j hj => ?_, fun j hj => ?_⟩
              all_goals have := h j hj; unfold profB at this; simp only [Bool.and_eq_true] at this
              · exact this.2.1
              · exact this.2.2
              · exact this.1
            · rintro ⟨h1, h2, h3⟩ j hj
              unfold profB
              rw [h1 j hj, h2 j hj, h3 j hj]; rfl
          rw [key]
          cases ls.all finB <;> cases ds.all leastB <;> cases (List.range as.length).all (knotB as) <;> rfl
        · rw [decide_eq_false c4]
          rw [decide_eq_true c1, decide_eq_true c2, decide_eq_true c3]; rfl
      · rw [decide_eq_false c3]
        rw [decide_eq_true c1, decide_eq_true c2]; rfl
    · rw [decide_eq_false c2]
      rw [decide_eq_true c1]; rfl
  · rw [decide_eq_false c1]; rfl
theorem spec_l02Is_eq {as ls ds : List Nat} : z83 as.length as ls.length ls ds.length ds = some (validProfB as ls ds) := by
  unfold z83 z7y validProfB
  rw [ltN2, show ltI 24 (Int.ofNat as.length) = !decide (as.length ≤ 24) from gtN 24 _, neN, neN]
  by_cases c1 : 2 ≤ as.length
  · by_cases c2 : as.length ≤ 24
    · by_cases c3 : ls.length = as.length
      · by_cases c4 : ds.length = as.length
        · rw [decide_eq_true c1, decide_eq_true c2, decide_eq_true c3, decide_eq_true c4]
          rcases scan (L := z1o (Int.ofNat as.length) as ls ds as.length ls.length ds.length) (len := as.length) (profB as ls ds) (g := fun _ => ()) (e := (Int.ofNat as.length, false))
            (fun n i hi => by
              rw [zb9]; unfold z2z
              obtain ⟨p1, q1⟩ := zcc (spec_l01Finite_eq (ls.getD i 0))
              obtain ⟨p2, q2⟩ := zgc (spec_l02Least_eq (ds.getD i 0))
              rw [ltN_t hi, okIx_t hi, ix1, addI1 (by omega), ltN0, okIx_t (show i < ls.length by omega), okIx_t (show i < ds.length by omega)]
              simp only [gF, p1, q1, p2, q2, grd_true, br_true]
              unfold profB knotB fromToB
              by_cases h0 : i = 0
              · subst h0
                cases fcmp .geq .f32 (as.getD 0 0) 3204448256 <;> cases fcmp .leq .f32 (as.getD 0 0) 1056964608 <;> cases finB (ls.getD 0 0) <;> cases leastB (ds.getD 0 0) <;> rfl
              · rw [subN1 h0 (by omega), okIx_t (show i - 1 < as.length by omega), ix1, decide_eq_false h0]
                cases fcmp .geq .f32 (as.getD i 0) 3204448256 <;> cases fcmp .leq .f32 (as.getD i 0) 1056964608 <;> cases fcmp .leq .f32 (as.getD i 0) (as.getD (i - 1) 0) <;> cases finB (ls.getD i 0) <;> cases leastB (ds.getD i 0) <;> rfl)
            (fun n => by rw [zb9]; unfold z2z; rw [ltN_f (Nat.le_refl _)]; rfl) as.length 0 big (by omega) (big_gt (by omega)) with ⟨h1, h2⟩ | ⟨j, _, h2, h3, h4⟩
          · obtain ⟨g1, g2, _⟩ := zfr rfl h2
            rw [range_all.2 fun j hj => h1 j (Nat.zero_le _) hj]
            show grd (z3a (Int.ofNat as.length) as ls ds as.length ls.length ds.length (Int.ofNat 0)) (br (z33 (Int.ofNat as.length) as ls ds as.length ls.length ds.length (Int.ofNat 0)) _ _) = _
            rw [g1, g2]; rfl
          · obtain ⟨g1, g2⟩ := zfn rfl h4
            have : (List.range as.length).all (profB as ls ds) = false := by
              cases hh : (List.range as.length).all (profB as ls ds) with
              | false => rfl
              | true => rw [range_all.1 hh j h2] at h3; cases h3
            rw [this]
            show grd (z3a (Int.ofNat as.length) as ls ds as.length ls.length ds.length (Int.ofNat 0)) (br (z33 (Int.ofNat as.length) as ls ds as.length ls.length ds.length (Int.ofNat 0)) _ _) = _
            rw [g1, g2]; rfl
        · rw [decide_eq_false c4]
          rw [decide_eq_true c1, decide_eq_true c2, decide_eq_true c3]; rfl
      · rw [decide_eq_false c3]
        rw [decide_eq_true c1, decide_eq_true c2]; rfl
    · rw [decide_eq_false c2]
      rw [decide_eq_true c1]; rfl
  · rw [decide_eq_false c1]; rfl
theorem marks_pF (k0 : Int) (m : Nat) : pF (marks k0 m) 0 (muN m 1) = marks k0 m := by
  have := pF_all (marks k0 m); rw [marks_length] at this; exact this
theorem unk_same {R : Type} {c : Bool} {x y : Option R} (h : c = true → x = y) : unk c x y = y := by
  unfold unk
  cases c
  · rfl
  · rw [h rfl]; simp
theorem slices_Clone_eq {xs : List Nat} (hl : xs.length ≤ 1099511627776) : z2c xs.length xs = some (xs.length, xs) := by
  have ho : okA2 0 xs.length 4 (nF xs) (nF []) 1 = true := decide_eq_true ⟨by omega, by omega, by simp [nF], by simp [nF]⟩
  unfold z2c z2r
  rw [pF_all, ho, unk_same]
  · show some (0 + xs.length, xs) = _
    rw [Nat.zero_add]
  · intro h
    have h0 : xs.length = 0 := of_decide_eq_true h
    obtain rfl := List.eq_nil_of_length_eq_zero h0
    rfl
theorem impl_copyProfile_eq {as ls ds : List Nat} (ha : as.length ≤ 1099511627776) (hl : ls.length ≤ 1099511627776) (hd : ds.length ≤ 1099511627776) :
    z1m as.length as ls.length ls ds.length ds = some (as.length, ls.length, ds.length, as, ls, ds) := by
  obtain ⟨p1, q1, r1⟩ := z5x (slices_Clone_eq ha)
  obtain ⟨p2, q2, r2⟩ := z5x (slices_Clone_eq hl)
  obtain ⟨p3, q3, r3⟩ := z5x (slices_Clone_eq hd)
  unfold z1m z3o
  simp only [pF_all, p1, q1, r1, p2, q2, r2, p3, q3, r3, grd_true]
theorem validProfB_len {as ls ds : List Nat} (h : validProfB as ls ds = true) : 2 ≤ as.length ∧ as.length ≤ 24 ∧ ls.length = as.length ∧ ds.length = as.length := by
  unfold validProfB at h
  simp only [Bool.and_eq_true, decide_eq_true_eq] at h
  exact ⟨h.1, h.2.1, h.2.2.1, h.2.2.2.1⟩
theorem laws_heldProfile_eq {k0 : Int} {l m n : Nat} (hk : 0 ≤ k0) (hk2 : k0 + (l : Int) + (m : Int) ≤ 1099511627776) (hl : l < 281474976710656) (hm : m < 281474976710656) (hn : n < 281474976710656) :
    z3n l (marks k0 l) m (marks (k0 + (l : Int)) m) n (marks (k0 + (l : Int) + (m : Int)) n) k0 = some (k0 + (l : Int) + (m : Int) + (n : Int)) := by
  obtain ⟨p1, q1⟩ := z8i (laws_heldFloat32S_eq (k0 := k0) (n := l) hk (by omega) hl)
  obtain ⟨p2, q2⟩ := z8i (laws_heldFloat32S_eq (k0 := k0 + (l : Int)) (n := m) (by omega) (by omega) hm)
  obtain ⟨p3, q3⟩ := z8i (laws_heldFloat32S_eq (k0 := k0 + (l : Int) + (m : Int)) (n := n) (by omega) hk2 hn)
  have l1 : ltI (k0 + (l : Int)) 0 = false := ltI_f (by omega)
  have l2 : ltI (k0 + (l : Int) + (m : Int)) 0 = false := ltI_f (by omega)
  have l3 : ltI (k0 + (l : Int) + (m : Int) + (n : Int)) 0 = false := ltI_f (by omega)
  unfold z3n z3s
  simp only [marks_pF, p1, q1, l1, p2, q2, l2, p3, q3, l3, grd_true, br_false]
theorem scan_first {α β : Type} {L : Nat → Int → Option (α ⊕ β)} {len : Nat} (p : Nat → Bool) {g : Nat → α} {e : β}
    (hs : ∀ n i, i < len → L (n + 1) (Int.ofNat i) = if p i = true then L n (Int.ofNat (i + 1)) else some (.inl (g i)))
    (he : ∀ n, L (n + 1) (Int.ofNat len) = some (.inr e)) :
    ∀ k i n, i + k = len → k < n → ((∀ j, i ≤ j → j < len → p j = true) ∧ L n (Int.ofNat i) = some (.inr e)) ∨ ∃ j, i ≤ j ∧ j < len ∧ p j = false ∧ (∀ l, i ≤ l → l < j → p l = true) ∧ L n (Int.ofNat i) = some (.inl (g j))
  | 0, i, n, hk, hn => by
    obtain ⟨n, rfl⟩ : ∃ m, n = m + 1 := ⟨n - 1, by omega⟩
    obtain rfl : i = len := by omega
    exact .inl ⟨fun j h1 h2 => by omega, he n⟩
  | k + 1, i, n, hk, hn => by
    obtain ⟨n, rfl⟩ : ∃ m, n = m + 1 := ⟨n - 1, by omega⟩
    have hi : i < len := by omega
    rw [hs n i hi]
    cases hp : p i with
    | false => exact .inr ⟨i, Nat.le_refl _, hi, hp, fun l h1 h2 => by omega, by simp⟩
    | true =>
      simp only [if_pos]
      rcases scan_first p hs he k (i + 1) n (by omega) (by omega) with ⟨h1, h2⟩ | ⟨j, h1, h2, h3, h5, h4⟩
      · refine .inl ⟨fun j h3 h4 => ?_, h2⟩
        by_cases e : j = i
        · rw [e]; exact hp
        · exact h1 j (by omega) h4
      · refine .inr ⟨j, by omega, h2, h3, fun l h6 h7 => ?_, h4⟩
        by_cases e : l = i
        · rw [e]; exact hp
        · exact h5 l (by omega) h7
theorem prof_knots {as ls ds : List Nat} (h : validProfB as ls ds = true) : ∀ j, j < as.length → knotB as j = true := by
  unfold validProfB at h
  simp only [Bool.and_eq_true] at h
  intro j hj
  have := range_all.1 h.2.2.2.2 j hj
  unfold profB at this
  rw [Bool.and_eq_true] at this
  exact this.1
def inN (xs : List Nat) (i y : Nat) : List Nat := xs.take i ++ y :: xs.drop i
theorem inN_len {xs : List Nat} {i y : Nat} (h : i ≤ xs.length) : (inN xs i y).length = xs.length + 1 := by simp [inN]; omega
theorem inN_get {xs : List Nat} {i y : Nat} (hi : i ≤ xs.length) (j : Nat) : (inN xs i y).getD j 0 = if j < i then xs.getD j 0 else if j = i then y else xs.getD (j - 1) 0 := by
  unfold inN
  rw [List.getD_eq_getElem?_getD]
  by_cases h1 : j < i
  · rw [if_pos h1, List.getElem?_append_left (by rw [List.length_take]; omega), List.getElem?_take_of_lt h1, List.getD_eq_getElem?_getD]
  · rw [if_neg h1, List.getElem?_append_right (by rw [List.length_take]; omega), List.length_take, Nat.min_eq_left hi]
    by_cases h2 : j = i
    · subst h2; rw [if_pos rfl, Nat.sub_self]; rfl
    · rw [if_neg h2]
      obtain ⟨k, hk⟩ : ∃ k, j - i = k + 1 := ⟨j - i - 1, by omega⟩
      rw [hk, List.getElem?_cons_succ, List.getElem?_drop, show i + k = j - 1 by omega, List.getD_eq_getElem?_getD]
theorem inN_snoc {xs : List Nat} {i y a : Nat} (h : i ≤ xs.length) : inN xs i y ++ [a] = inN (xs ++ [a]) i y := by
  unfold inN
  rw [List.take_append_of_le_length h, List.drop_append_of_le_length h, List.append_assoc]
  rfl
theorem inN_at {xs : List Nat} {i y a : Nat} (h : xs.length = i) : (xs ++ [y]) ++ [a] = inN (xs ++ [a]) i y := by
  unfold inN
  rw [List.take_append_of_le_length (by omega), List.drop_append_of_le_length (by omega), List.take_of_length_le (by omega), List.drop_of_length_le (by omega), List.append_assoc]
  rfl
theorem inN_end {xs : List Nat} {y : Nat} : inN xs xs.length y = xs ++ [y] := by simp [inN]
def knotR (as ls ds : List Nat) (x y z j : Nat) : Nat × Nat × Nat × Bool × List Nat × List Nat × List Nat :=
  if validProfB (inN as j x) (inN ls j y) (inN ds j z) = true then (as.length + 1, as.length + 1, as.length + 1, true, inN as j x, inN ls j y, inN ds j z) else (0, 0, 0, false, [], [], [])
def hasB (as : List Nat) (x : Nat) : Bool := (List.range as.length).any fun j => fcmp .eql .f32 x (as.getD j 0)
theorem Contains_eq {as : List Nat} {x : Nat} (hl : as.length ≤ 24) : z1r as.length as x = some (hasB as x) := by
  rcases scan_first (L := z0g as.length x (Int.ofNat as.length) as) (len := as.length) (fun j => !fcmp .eql .f32 x (as.getD j 0)) (g := fun j => Int.ofNat j) (e := (Int.ofNat as.length, false))
    (fun n j hj => by
      rw [z64]; unfold z1a
      rw [ltN_t hj, okIx_t hj, ix1, addI1 (by omega)]
      simp only [gF, br_true, grd_true]
      cases fcmp .eql .f32 x (as.getD j 0) <;> rfl)
    (fun n => by rw [z64]; unfold z1a; rw [ltN_f (Nat.le_refl _)]; rfl) as.length 0 big (by omega) (big_gt (by omega)) with ⟨h1, h2⟩ | ⟨j, _, h2, h3, h4, h5⟩
  · obtain ⟨g1, g2, _⟩ := zbn rfl h2
    obtain ⟨k1, k2⟩ := za5 (show z1t as.length as x = some (Int.negSucc 0) by
      unfold z1t z2e
      show grd (z1f as.length x (Int.ofNat as.length) as (Int.ofNat 0)) (br (z1d as.length x (Int.ofNat as.length) as (Int.ofNat 0)) _ _) = _
      rw [g1, g2]; rfl)
    have hh : hasB as x = false := by
      cases h : hasB as x with
      | false => rfl
      | true =>
        unfold hasB at h
        rw [List.any_eq_true] at h
        obtain ⟨j, hj, he⟩ := h
        rw [List.mem_range] at hj
        have := h1 j (Nat.zero_le _) hj
        rw [he] at this; cases this
    unfold z1r z1s
    simp only [pF_all, k1, k2, grd_true, hh]
    rfl
  · obtain ⟨g1, g2, g3⟩ := zbk rfl h5
    obtain ⟨k1, k2⟩ := za5 (show z1t as.length as x = some (Int.ofNat j) by
      unfold z1t z2e
      show grd (z1f as.length x (Int.ofNat as.length) as (Int.ofNat 0)) (br (z1d as.length x (Int.ofNat as.length) as (Int.ofNat 0)) (some (z2k as.length x (Int.ofNat as.length) as (Int.ofNat 0))) _) = _
      rw [g1, g2, g3]; rfl)
    have hh : hasB as x = true := by
      unfold hasB
      rw [List.any_eq_true]
      exact ⟨j, List.mem_range.2 h2, by simpa using h3⟩
    unfold z1r z1s
    simp only [pF_all, k1, k2, grd_true, hh]
    rw [show leI 0 (Int.ofNat j) = true from decide_eq_true (by simp)]
theorem up_loop {as : List Nat} {x : Nat} (hl : as.length ≤ 24) : ∃ j, j ≤ as.length ∧ (∀ l, l < j → fcmp .lss .f32 (as.getD l 0) x = true) ∧ (j < as.length → fcmp .lss .f32 (as.getD j 0) x = false) ∧ z1i x as as.length big 0 = some (Int.ofNat j, false) := by
  have go : ∀ d i m, i + d = as.length → d < m → (∀ l, l < i → fcmp .lss .f32 (as.getD l 0) x = true) → ∃ j, j ≤ as.length ∧ (∀ l, l < j → fcmp .lss .f32 (as.getD l 0) x = true) ∧ (j < as.length → fcmp .lss .f32 (as.getD j 0) x = false) ∧ z1i x as as.length m (Int.ofNat i) = some (Int.ofNat j, false) := by
    intro d
    induction d with
    | zero =>
      intro i m h1 h2 h3
      obtain ⟨m, rfl⟩ : ∃ k, m = k + 1 := ⟨m - 1, by omega⟩
      obtain rfl : i = as.length := by omega
      refine ⟨as.length, Nat.le_refl _, h3, fun h => absurd h (by omega), ?_⟩
      rw [zat]; unfold z2l; rw [ltN_f (Nat.le_refl _)]; rfl
    | succ d ih =>
      intro i m h1 h2 h3
      obtain ⟨m, rfl⟩ : ∃ k, m = k + 1 := ⟨m - 1, by omega⟩
      have hi : i < as.length := by omega
      rw [zat]; unfold z2l
      rw [ltN_t hi, okIx_t hi, ix1, addI1 (by omega)]
      simp only [gF, br_true, grd_true]
      cases hc : fcmp .lss .f32 (as.getD i 0) x with
      | true =>
        exact ih (i + 1) m (by omega) (by omega) (fun l hl => by
          by_cases e : l = i
          · rw [e]; exact hc
          · exact h3 l (by omega))
      | false => exact ⟨i, by omega, h3, fun _ => hc, rfl⟩
  exact go as.length 0 big (by omega) (big_gt (by omega)) (fun l hl => by omega)
theorem impl_AddKnot_ex {as ls ds : List Nat} {x y z : Nat} (hv : validProfB as ls ds = true) : (hasB as x = true ∧ z1e as.length as ls.length ls ds.length ds x y z = some (0, 0, 0, false, [], [], [])) ∨
    (hasB as x = false ∧ ∃ j, j ≤ as.length ∧ (∀ l, l < j → fcmp .lss .f32 (as.getD l 0) x = true) ∧ (j < as.length → fcmp .lss .f32 (as.getD j 0) x = false) ∧ z1e as.length as ls.length ls ds.length ds x y z = some (knotR as ls ds x y z j)) := by
  obtain ⟨c1, c2, c3, c4⟩ := validProfB_len hv
  obtain ⟨p1, q1⟩ := z96 (impl_ValidProfile_eq (as := as) (ls := ls) (ds := ds) (by omega) (by omega))
  obtain ⟨p2, q2⟩ := zbr (Contains_eq (x := x) c2)
  cases hh : hasB as x with
  | true =>
    refine .inl ⟨rfl, ?_⟩
    unfold z1e z40
    simp only [pF_all, p1, q1, hv, p2, q2, hh, grd_true, bnot_true, br_false, br_true]
  | false =>
    obtain ⟨j, j1, j2, j3, j4⟩ := up_loop (x := x) c2
    refine .inr ⟨rfl, j, j1, j2, j3, ?_⟩
    obtain ⟨l1, l2, _⟩ := zes rfl j4
    obtain ⟨e0, e1, e2, e3, e4, e5, e6⟩ := zey (impl_copyProfile_eq (as := as) (ls := ls) (ds := ds) (by omega) (by omega) (by omega))
    have o1 : okIn (Int.ofNat j) as.length (nF as) = true := decide_eq_true ⟨by simp, by simp; omega, by omega, rfl, by omega⟩
    have o2 : okIn (Int.ofNat j) as.length (nF ls) = true := decide_eq_true ⟨by simp, by simp; omega, by omega, c3, by omega⟩
    have o3 : okIn (Int.ofNat j) as.length (nF ds) = true := decide_eq_true ⟨by simp, by simp; omega, by omega, c4, by omega⟩
    have n1 := inN_len (xs := as) (i := j) (y := x) j1
    have n2 := inN_len (xs := ls) (i := j) (y := y) (by omega)
    have n3 := inN_len (xs := ds) (i := j) (y := z) (by omega)
    have a1 : adN as.length 1 = (inN as j x).length := n1.symm
    have f1 : inF as (Int.ofNat j) (gF [x] 0) = inN as j x := rfl
    have f2 : inF ls (Int.ofNat j) (gF [y] 0) = inN ls j y := rfl
    have f3 : inF ds (Int.ofNat j) (gF [z] 0) = inN ds j z := rfl
    have w1 : pF (inN as j x) 0 (muN (inN as j x).length 1) = inN as j x := pF_all _
    have w2 : pF (inN ls j y) 0 (muN (inN as j x).length 1) = inN ls j y := by rw [n1, ← c3, ← n2]; exact pF_all _
    have w3 : pF (inN ds j z) 0 (muN (inN as j x).length 1) = inN ds j z := by rw [n1, ← c4, ← n3]; exact pF_all _
    obtain ⟨p5, q5⟩ := z96 (impl_ValidProfile_eq (as := inN as j x) (ls := inN ls j y) (ds := inN ds j z) (by omega) (by omega))
    rw [n2, n3, c3, c4, ← n1] at p5 q5
    rw [c3, c4] at e0 e1 e2 e3 e4 e5 e6 p1 q1 ⊢
    have pl : pF ls 0 (muN as.length 1) = ls := by rw [← c3]; exact pF_all _
    have pd : pF ds 0 (muN as.length 1) = ds := by rw [← c4]; exact pF_all _
    unfold z1e z40
    simp only [pF_all, pl, pd, p1, q1, hv, p2, q2, hh, l1, l2, e0, e1, e2, e3, e4, e5, e6, o1, o2, o3, a1, f1, f2, f3, w1, w2, w3, p5, q5, grd_true, bnot_true, br_false]
    unfold knotR
    rw [← n1]
    cases validProfB (inN as j x) (inN ls j y) (inN ds j z) <;> rfl
theorem put_loop {as ls ds : List Nat} {x y z n : Nat} (h0 : as.length = n) (h1 : ls.length = n) (h2 : ds.length = n) (hn : n ≤ 24) {j : Nat} (hj : j < n) : ∀ d i m, i + d = n → d < m → j < i →
    z0l x y z as ls ds n n n m true (Int.ofNat i) (i + 1) (i + 1) (i + 1) (inN (as.take i) j x) (inN (ls.take i) j y) (inN (ds.take i) j z) = some (true, Int.ofNat n, false, n + 1, n + 1, n + 1, inN as j x, inN ls j y, inN ds j z)
  | 0, i, m, g1, g2, g3 => by
    obtain ⟨m, rfl⟩ : ∃ k, m = k + 1 := ⟨m - 1, by omega⟩
    obtain rfl : i = n := by omega
    rw [z5b]; unfold z1v
    rw [ltN_f (Nat.le_refl _), br_false, List.take_of_length_le (by omega), List.take_of_length_le (by omega), List.take_of_length_le (by omega)]
  | d + 1, i, m, g1, g2, g3 => by
    obtain ⟨m, rfl⟩ : ∃ k, m = k + 1 := ⟨m - 1, by omega⟩
    have hi : i < n := by omega
    have ih := put_loop (x := x) (y := y) (z := z) h0 h1 h2 hn hj d (i + 1) m (by omega) (by omega) (by omega)
    have l1 := inN_len (xs := as.take i) (i := j) (y := x) (by rw [List.length_take]; omega)
    have l2 := inN_len (xs := ls.take i) (i := j) (y := y) (by rw [List.length_take]; omega)
    have l3 := inN_len (xs := ds.take i) (i := j) (y := z) (by rw [List.length_take]; omega)
    rw [List.length_take] at l1 l2 l3
    have t1 : aF (inN (as.take i) j x) (pF [as.getD i 0] 0 (muN 1 1)) = inN (as.take (i + 1)) j x := by
      show inN (as.take i) j x ++ [as.getD i 0] = _
      rw [inN_snoc (by rw [List.length_take]; omega), take_succ_getD (by omega)]
    have t2 : aF (inN (ls.take i) j y) (pF [ls.getD i 0] 0 (muN 1 1)) = inN (ls.take (i + 1)) j y := by
      show inN (ls.take i) j y ++ [ls.getD i 0] = _
      rw [inN_snoc (by rw [List.length_take]; omega), take_succ_getD (by omega)]
    have t3 : aF (inN (ds.take i) j z) (pF [ds.getD i 0] 0 (muN 1 1)) = inN (ds.take (i + 1)) j z := by
      show inN (ds.take i) j z ++ [ds.getD i 0] = _
      rw [inN_snoc (by rw [List.length_take]; omega), take_succ_getD (by omega)]
    rw [z5b]; unfold z1v
    rw [ltN_t hi, okIx_t hi, ix1, addI1 (by omega)]
    simp only [br_true, grd_true, bnot_true, br_false, gF, t1, t2, t3]
    rw [okA2_1 _ (b := inN (as.take i) j x) (by omega) (by omega), okA2_1 _ (b := inN (ls.take i) j y) (by omega) (by omega), okA2_1 _ (b := inN (ds.take i) j z) (by omega) (by omega)]
    exact ih
theorem spec_knot_loop {as ls ds : List Nat} {x y z n : Nat} (h0 : as.length = n) (h1 : ls.length = n) (h2 : ds.length = n) (hn : n ≤ 24) : ∀ d i m, i + d = n → d < m → (∀ l, l < i → fcmp .lss .f32 x (as.getD l 0) = false) →
    ∃ j, j ≤ n ∧ (∀ l, l < j → fcmp .lss .f32 x (as.getD l 0) = false) ∧ (j < n → fcmp .lss .f32 x (as.getD j 0) = true) ∧
      z0l x y z as ls ds n n n m false (Int.ofNat i) i i i (as.take i) (ls.take i) (ds.take i) = some (if j < n then (true, Int.ofNat n, false, n + 1, n + 1, n + 1, inN as j x, inN ls j y, inN ds j z) else (false, Int.ofNat n, false, n, n, n, as, ls, ds))
  | 0, i, m, g1, g2, g3 => by
    obtain ⟨m, rfl⟩ : ∃ k, m = k + 1 := ⟨m - 1, by omega⟩
    obtain rfl : i = n := by omega
    refine ⟨i, Nat.le_refl _, g3, fun h => absurd h (by omega), ?_⟩
    rw [z5b]; unfold z1v
    rw [ltN_f (Nat.le_refl _), br_false, if_neg (by omega), List.take_of_length_le (by omega), List.take_of_length_le (by omega), List.take_of_length_le (by omega)]
  | d + 1, i, m, g1, g2, g3 => by
    obtain ⟨m, rfl⟩ : ∃ k, m = k + 1 := ⟨m - 1, by omega⟩
    have hi : i < n := by omega
    have k1 : (as.take i).length = i := by rw [List.length_take]; omega
    have k2 : (ls.take i).length = i := by rw [List.length_take]; omega
    have k3 : (ds.take i).length = i := by rw [List.length_take]; omega
    rw [z5b]; unfold z1v
    rw [ltN_t hi, okIx_t hi, ix1, addI1 (by omega), okA2_1 _ (b := as.take i) k1 (by omega), okA2_1 _ (b := ls.take i) k2 (by omega), okA2_1 _ (b := ds.take i) k3 (by omega), okA2_1 _ (b := as.take i) k1 (by omega), okA2_1 _ (b := ls.take i) k2 (by omega), okA2_1 _ (b := ds.take i) k3 (by omega)]
    simp only [br_true, grd_true, bnot, Bool.not_false, gF]
    cases hc : fcmp .lss .f32 x (as.getD i 0) with
    | false =>
      simp only [br_false]
      have t1 : aF (as.take i) (pF [as.getD i 0] 0 (muN 1 1)) = as.take (i + 1) := take_succ_getD (by omega)
      have t2 : aF (ls.take i) (pF [ls.getD i 0] 0 (muN 1 1)) = ls.take (i + 1) := take_succ_getD (by omega)
      have t3 : aF (ds.take i) (pF [ds.getD i 0] 0 (muN 1 1)) = ds.take (i + 1) := take_succ_getD (by omega)
      rw [t1, t2, t3]
      exact spec_knot_loop h0 h1 h2 hn d (i + 1) m (by omega) (by omega) (fun l hl => by
        by_cases e : l = i
        · rw [e]; exact hc
        · exact g3 l (by omega))
    | true =>
      simp only [br_true]
      have u1 : aF (aF (as.take i) (pF [x] 0 (muN 1 1))) (pF [as.getD i 0] 0 (muN 1 1)) = inN (as.take (i + 1)) i x := by
        show (as.take i ++ [x]) ++ [as.getD i 0] = _
        rw [inN_at k1, take_succ_getD (by omega)]
      have u2 : aF (aF (ls.take i) (pF [y] 0 (muN 1 1))) (pF [ls.getD i 0] 0 (muN 1 1)) = inN (ls.take (i + 1)) i y := by
        show (ls.take i ++ [y]) ++ [ls.getD i 0] = _
        rw [inN_at k2, take_succ_getD (by omega)]
      have u3 : aF (aF (ds.take i) (pF [z] 0 (muN 1 1))) (pF [ds.getD i 0] 0 (muN 1 1)) = inN (ds.take (i + 1)) i z := by
        show (ds.take i ++ [z]) ++ [ds.getD i 0] = _
        rw [inN_at k3, take_succ_getD (by omega)]
      rw [okA2_1 _ (b := aF (as.take i) (pF [x] 0 (muN 1 1))) (by show (as.take i ++ [x]).length = _; simp [k1]) (by show i + 1 < _; omega), okA2_1 _ (b := aF (ls.take i) (pF [y] 0 (muN 1 1))) (by show (ls.take i ++ [y]).length = _; simp [k2]) (by show i + 1 < _; omega), okA2_1 _ (b := aF (ds.take i) (pF [z] 0 (muN 1 1))) (by show (ds.take i ++ [z]).length = _; simp [k3]) (by show i + 1 < _; omega), u1, u2, u3]
      refine ⟨i, by omega, g3, fun _ => hc, ?_⟩
      rw [if_pos hi]
      exact put_loop h0 h1 h2 hn hi d (i + 1) m (by omega) (by omega) (by omega)
theorem spec_AddKnot_ex {as ls ds : List Nat} {x y z : Nat} (hv : validProfB as ls ds = true) : (fromToB x 3204448256 1056964608 = false ∧ z1h as.length as ls.length ls ds.length ds x y z = some (0, 0, 0, false, [], [], [])) ∨
    (fromToB x 3204448256 1056964608 = true ∧ ∃ j, j ≤ as.length ∧ (∀ l, l < j → fcmp .lss .f32 x (as.getD l 0) = false) ∧ (j < as.length → fcmp .lss .f32 x (as.getD j 0) = true) ∧ z1h as.length as ls.length ls ds.length ds x y z = some (knotR as ls ds x y z j)) := by
  obtain ⟨c1, c2, c3, c4⟩ := validProfB_len hv
  obtain ⟨p1, q1⟩ := zbx (spec_l02Is_eq (as := as) (ls := ls) (ds := ds))
  obtain ⟨n0, m1, m2, m3⟩ := zgv (show z5m = some ([], [], []) from rfl)
  have pl : pF ls 0 (muN as.length 1) = ls := by rw [← c3]; exact pF_all _
  have pd : pF ds 0 (muN as.length 1) = ds := by rw [← c4]; exact pF_all _
  rw [c3, c4] at p1 q1 ⊢
  unfold z1h z57 fromToB
  simp only [pF_all, pl, pd, p1, q1, hv, n0, m1, m2, m3, grd_true, bnot_true, br_false]
  cases hg : fcmp .geq .f32 x 3204448256 with
  | false => exact .inl ⟨rfl, rfl⟩
  | true =>
    cases hq : fcmp .leq .f32 x 1056964608 with
    | false => exact .inl ⟨rfl, rfl⟩
    | true =>
      obtain ⟨j, j1, j2, j3, j4⟩ := spec_knot_loop (x := x) (y := y) (z := z) rfl c3 c4 c2 as.length 0 big (by omega) (big_gt (by omega)) (fun l hl => by omega)
      refine .inr ⟨rfl, j, j1, j2, j3, ?_⟩
      obtain ⟨l0, l1, _, _, l4, l5, l6, l7, l8, l9⟩ := zez rfl (show z0l x y z as ls ds as.length as.length as.length big false 0 0 0 0 [] [] [] = some _ from j4)
      have e1 := inN_len (xs := as) (i := j) (y := x) j1
      have e2 := inN_len (xs := ls) (i := j) (y := y) (by omega)
      have e3 := inN_len (xs := ds) (i := j) (y := z) (by omega)
      have w1 : pF (inN as j x) 0 (muN (as.length + 1) 1) = inN as j x := by rw [← e1]; exact pF_all _
      have w2 : pF (inN ls j y) 0 (muN (as.length + 1) 1) = inN ls j y := by rw [← c3, ← e2]; exact pF_all _
      have w3 : pF (inN ds j z) 0 (muN (as.length + 1) 1) = inN ds j z := by rw [← c4, ← e3]; exact pF_all _
      obtain ⟨p5, q5⟩ := zbx (spec_l02Is_eq (as := inN as j x) (ls := inN ls j y) (ds := inN ds j z))
      rw [e1, e2, e3, c3, c4] at p5 q5
      simp only [l0, l1, l4, l5, l6, l7, l8, l9, grd_true, br_true, bnot_true, br_false]
      by_cases hjn : j < as.length
      · simp only [if_pos hjn, bnot_true, br_false, br_true, grd_true, w1, w2, w3, p5, q5]
        unfold knotR
        cases validProfB (inN as j x) (inN ls j y) (inN ds j z) <;> rfl
      · obtain rfl : j = as.length := by omega
        have v1 : aF as (pF [x] 0 (muN 1 1)) = inN as as.length x := inN_end.symm
        have v2 : aF ls (pF [y] 0 (muN 1 1)) = inN ls as.length y := by rw [← c3]; exact inN_end.symm
        have v3 : aF ds (pF [z] 0 (muN 1 1)) = inN ds as.length z := by rw [← c4]; exact inN_end.symm
        have a1 : adN as.length 1 = as.length + 1 := rfl
        simp only [if_neg hjn, bnot, Bool.not_false, br_true, grd_true, v1, v2, v3, a1, w1, w2, w3, p5, q5]
        rw [okA2_1 _ (b := as) rfl (by omega), okA2_1 _ (b := ls) c3 (by omega), okA2_1 _ (b := ds) c4 (by omega)]
        unfold knotR
        cases validProfB (inN as as.length x) (inN ls as.length y) (inN ds as.length z) <;> rfl
theorem knot_at {as ls ds : List Nat} {i : Nat} (h : validProfB as ls ds = true) (hi : i < as.length) : fromToB (as.getD i 0) 3204448256 1056964608 = true ∧ nanB .f32 (as.getD i 0) = false ∧ (0 < i → srung FloatKind.f32.format (as.getD (i - 1) 0) < srung FloatKind.f32.format (as.getD i 0)) := by
  have nn' : ∀ j, j < as.length → fromToB (as.getD j 0) 3204448256 1056964608 = true ∧ nanB .f32 (as.getD j 0) = false := fun j hj => by
    have := prof_knots h j hj
    unfold knotB at this
    rw [Bool.and_eq_true] at this
    refine ⟨this.1, ?_⟩
    have h1 := this.1
    unfold fromToB at h1
    rw [Bool.and_eq_true] at h1
    cases hn : nanB .f32 (as.getD j 0) with
    | false => rfl
    | true => rw [(fcmp_nan .f32 (.inl hn)).2.2.2.2.2] at h1; cases h1.1
  refine ⟨(nn' i hi).1, (nn' i hi).2, fun h0 => ?_⟩
  have := prof_knots h i hi
  unfold knotB at this
  rw [Bool.and_eq_true, decide_eq_false (by omega), Bool.false_or, (fcmp_num .f32 (nn' i hi).2 (nn' (i - 1) (by omega)).2).2.2.2.1] at this
  have := this.2
  simp only [Bool.not_eq_true', decide_eq_false_iff_not] at this
  omega
theorem knot_mono {as ls ds : List Nat} (h : validProfB as ls ds = true) : ∀ d i, i + d < as.length → srung FloatKind.f32.format (as.getD i 0) + d ≤ srung FloatKind.f32.format (as.getD (i + d) 0)
  | 0, i, _ => by simp
  | d + 1, i, hi => by
    have ih := knot_mono h d i (by omega)
    have := (knot_at h (i := i + (d + 1)) hi).2.2 (by omega)
    rw [show i + (d + 1) - 1 = i + d by omega] at this
    omega
theorem AddKnot_same {as ls ds : List Nat} {x y z : Nat} (hl : ls.length < 281474976710656) (hd : ds.length < 281474976710656) : ∃ r : Nat × Nat × Nat × Bool × List Nat × List Nat × List Nat, z1e as.length as ls.length ls ds.length ds x y z = some r ∧ z1h as.length as ls.length ls ds.length ds x y z = some r ∧
    r.2.2.2.2.1.length = r.1 ∧ r.2.2.2.2.2.1.length = r.2.1 ∧ r.2.2.2.2.2.2.length = r.2.2.1 ∧ r.1 ≤ 25 ∧ r.2.1 ≤ 25 ∧ r.2.2.1 ≤ 25 := by
  have zeros : ∀ A B : Option (Nat × Nat × Nat × Bool × List Nat × List Nat × List Nat), A = some (0, 0, 0, false, [], [], []) → B = some (0, 0, 0, false, [], [], []) → ∃ r : Nat × Nat × Nat × Bool × List Nat × List Nat × List Nat, A = some r ∧ B = some r ∧
    r.2.2.2.2.1.length = r.1 ∧ r.2.2.2.2.2.1.length = r.2.1 ∧ r.2.2.2.2.2.2.length = r.2.2.1 ∧ r.1 ≤ 25 ∧ r.2.1 ≤ 25 ∧ r.2.2.1 ≤ 25 := fun A B h1 h2 => ⟨_, h1, h2, rfl, rfl, rfl, by decide, by decide, by decide⟩
  cases hv : validProfB as ls ds with
  | false =>
    obtain ⟨p1, q1⟩ := z96 (impl_ValidProfile_eq (as := as) (ls := ls) (ds := ds) hl hd)
    obtain ⟨p2, q2⟩ := zbx (spec_l02Is_eq (as := as) (ls := ls) (ds := ds))
    refine zeros _ _ ?_ ?_
    · unfold z1e z40
      simp only [pF_all, p1, q1, hv, grd_true, bnot, Bool.not_false, br_true]
    · unfold z1h z57
      simp only [pF_all, p2, q2, hv, grd_true, bnot, Bool.not_false, br_true]
  | true =>
    obtain ⟨c1, c2, c3, c4⟩ := validProfB_len hv
    -- what is not between the bounds is no knot
    have out : ∀ j, j ≤ as.length → fromToB x 3204448256 1056964608 = false → knotR as ls ds x y z j = (0, 0, 0, false, [], [], []) := fun j hj hx => by
      unfold knotR
      refine if_neg (fun hb => ?_)
      have := (knot_at hb (i := j) (by rw [inN_len hj]; omega)).1
      rw [inN_get hj, if_neg (by omega), if_pos rfl, hx] at this
      cases this
    -- what is a knot already
    have twice : ∀ j, j ≤ as.length → nanB .f32 x = false → (∀ l, l < j → fcmp .lss .f32 x (as.getD l 0) = false) → (j < as.length → fcmp .lss .f32 x (as.getD j 0) = true) → hasB as x = true → knotR as ls ds x y z j = (0, 0, 0, false, [], [], []) := fun j hj hx h1 h2 hh => by
      unfold knotR
      refine if_neg (fun hb => ?_)
      unfold hasB at hh
      rw [List.any_eq_true] at hh
      obtain ⟨i, hi, he⟩ := hh
      rw [List.mem_range] at hi
      rw [(fcmp_num .f32 hx (knot_at hv hi).2.1).1, decide_eq_true_eq] at he
      have hij : i < j := by
        rcases Nat.lt_or_ge i j with h | h
        · exact h
        · exfalso
          have hj' : j < as.length := by omega
          have a1 := h2 hj'
          rw [(fcmp_num .f32 hx (knot_at hv hj').2.1).2.2.1, decide_eq_true_eq] at a1
          have a2 := knot_mono hv (i - j) j (by omega)
          rw [show j + (i - j) = i by omega] at a2
          omega
      have a3 := (knot_at hb (i := j) (by rw [inN_len hj]; omega)).2.2 (by omega)
      rw [inN_get hj, inN_get hj, if_neg (show ¬ j < j by omega), if_pos rfl, if_pos (show j - 1 < j by omega)] at a3
      have a4 := knot_mono hv (j - 1 - i) i (by omega)
      rw [show i + (j - 1 - i) = j - 1 by omega] at a4
      omega
    rcases impl_AddKnot_ex (x := x) (y := y) (z := z) hv with ⟨h1, h2⟩ | ⟨h1, i, i1, i2, i3, i4⟩
    · rcases spec_AddKnot_ex (x := x) (y := y) (z := z) hv with ⟨g1, g2⟩ | ⟨g1, j, j1, j2, j3, j4⟩
      · exact zeros _ _ h2 g2
      · have hx : nanB .f32 x = false := by
          unfold fromToB at g1
          rw [Bool.and_eq_true] at g1
          cases hn : nanB .f32 x with
          | false => rfl
          | true => rw [(fcmp_nan .f32 (.inl hn)).2.2.2.2.2] at g1; cases g1.1
        rw [twice j j1 hx j2 j3 h1] at j4
        exact zeros _ _ h2 j4
    · rcases spec_AddKnot_ex (x := x) (y := y) (z := z) hv with ⟨g1, g2⟩ | ⟨g1, j, j1, j2, j3, j4⟩
      · rw [out i i1 g1] at i4
        exact zeros _ _ i4 g2
      · have hx : nanB .f32 x = false := by
          unfold fromToB at g1
          rw [Bool.and_eq_true] at g1
          cases hn : nanB .f32 x with
          | false => rfl
          | true => rw [(fcmp_nan .f32 (.inl hn)).2.2.2.2.2] at g1; cases g1.1
        have hij : i = j := by
          rcases Nat.lt_trichotomy i j with h | h | h
          · exfalso
            have hi' : i < as.length := by omega
            have b1 := i3 hi'
            have b2 := j2 i h
            rw [(fcmp_num .f32 (knot_at hv hi').2.1 hx).2.2.1, decide_eq_false_iff_not] at b1
            rw [(fcmp_num .f32 hx (knot_at hv hi').2.1).2.2.1, decide_eq_false_iff_not] at b2
            have : hasB as x = true := by
              unfold hasB
              rw [List.any_eq_true]
              exact ⟨i, List.mem_range.2 hi', by rw [(fcmp_num .f32 hx (knot_at hv hi').2.1).1]; exact decide_eq_true (by omega)⟩
            rw [h1] at this; cases this
          · exact h
          · exfalso
            have hj' : j < as.length := by omega
            have b1 := i2 j h
            have b2 := j3 hj'
            rw [(fcmp_num .f32 (knot_at hv hj').2.1 hx).2.2.1, decide_eq_true_eq] at b1
            rw [(fcmp_num .f32 hx (knot_at hv hj').2.1).2.2.1, decide_eq_true_eq] at b2
            omega
        subst hij
        refine ⟨_, i4, j4, ?_⟩
        unfold knotR
        split
        · exact ⟨inN_len i1, by show (inN ls i y).length = _; rw [inN_len (by omega), c3], by show (inN ds i z).length = _; rw [inN_len (by omega), c4], by show as.length + 1 ≤ 25; omega, by show as.length + 1 ≤ 25; omega, by show as.length + 1 ≤ 25; omega⟩
        · exact ⟨rfl, rfl, rfl, by decide, by decide, by decide⟩
theorem plain_FnExactAddKnot {as ls ds : List Nat} {x y z : Nat} (ka : ∀ x ∈ as, canW .f32 x) (ma : as.length ≤ maxLen) (kl : ∀ x ∈ ls, canW .f32 x) (ml : ls.length ≤ maxLen) (kd : ∀ x ∈ ds, canW .f32 x) (md : ds.length ≤ maxLen) (kx : canW .f32 x) (ky : canW .f32 y) (kz : canW .f32 z) :
    z31 as.length as ls.length ls ds.length ds x y z = some true := by
  obtain ⟨r1, h1, k1, k1'⟩ := laws_szProfile_eq (left := 1048576) ma ml md (by decide) (by decide)
  obtain ⟨p1, q1⟩ := zg4 h1
  unfold z31 z30
  simp only [laws_FnExactAddKnot_c0, laws_FnExactAddKnot_c1, laws_FnExactAddKnot_c2, laws_FnExactAddKnot_c3, laws_FnExactAddKnot_c4, laws_FnExactAddKnot_c5, laws_FnExactAddKnot_c6, laws_FnExactAddKnot_c7, laws_FnExactAddKnot_c8, laws_FnExactAddKnot_c9, laws_FnExactAddKnot_c10, laws_FnExactAddKnot_c11, laws_FnExactAddKnot_c12, laws_FnExactAddKnot_c13, laws_FnExactAddKnot_c14, laws_FnExactAddKnot_c15, laws_FnExactAddKnot_c16, laws_FnExactAddKnot_c17, laws_FnExactAddKnot_c18, laws_FnExactAddKnot_c19, laws_FnExactAddKnot_c20, laws_FnExactAddKnot_c21, laws_FnExactAddKnot_c22, laws_FnExactAddKnot_c23, laws_FnExactAddKnot_c24, laws_FnExactAddKnot_c25, laws_FnExactAddKnot_c26, laws_FnExactAddKnot_c27, laws_FnExactAddKnot_c28, laws_FnExactAddKnot_c29, laws_FnExactAddKnot_c30, laws_FnExactAddKnot_c31, laws_FnExactAddKnot_c32, laws_FnExactAddKnot_c33, laws_FnExactAddKnot_c34, laws_FnExactAddKnot_c35, laws_FnExactAddKnot_c36, laws_FnExactAddKnot_c37, laws_FnExactAddKnot_c38, laws_FnExactAddKnot_c39, laws_FnExactAddKnot_c40, laws_FnExactAddKnot_c41, laws_FnExactAddKnot_c42, pF_all, p1, q1, grd_true]
  by_cases c1 : r1 < 0
  · rw [ltI_t c1]; rfl
  · rw [ltI_f c1]
    have l1 := k1 (by omega)
    obtain ⟨p3, a3, b3, d3, e3, f3, g3⟩ := zg2 (laws_toProfile_eq (as := as) (ls := ls) (ds := ds) (by omega) (by omega) (by omega))
    obtain ⟨p5, q5⟩ := zcd (laws_eqProfile_refl (as := as) (ls := ls) (ds := ds) (by omega) (by omega) (by omega))
    obtain ⟨R, hi, hs, y1, y2, y3, y4, y5, y6⟩ := AddKnot_same (as := as) (ls := ls) (ds := ds) (x := x) (y := y) (z := z) (by omega) (by omega)
    obtain ⟨i0, i1, i2, i3, i4, i5, i6, i7⟩ := zgn hi
    obtain ⟨s0, s1, s2, s3, s4, s5, s6, s7⟩ := zgk hs
    obtain ⟨m1, m2, m3, ok, us, vs, ws⟩ := R
    simp only at y1 y2 y3 y4 y5 y6 i1 i2 i3 i4 i5 i6 i7 s1 s2 s3 s4 s5 s6 s7
    subst y1 y2 y3
    obtain ⟨p7, q7⟩ := zcd (laws_eqProfile_refl (as := us) (ls := vs) (ds := ws) (by omega) (by omega) (by omega))
    obtain ⟨A1, A2, _⟩ := laws_FnExactAddKnot__markFloat32S_l2_of0 rfl (mark_loop (L := z0a as.length) (k0 := 1) (ys := as) rfl (by omega) (by omega) (by omega) (fun n k i b => by rw [z74]; rfl))
    obtain ⟨B1, B2, _⟩ := laws_FnExactAddKnot__markFloat32S_l2_2_of0 rfl (mark_loop (L := z09 ls.length) (k0 := 1 + (as.length : Int)) (ys := ls) rfl (by omega) (by omega) (by omega) (fun n k i b => by rw [z6h]; rfl))
    obtain ⟨C1, C2, _⟩ := laws_FnExactAddKnot__markFloat32S_l2_3_of0 rfl (mark_loop (L := z06 ds.length) (k0 := 1 + (as.length : Int) + (ls.length : Int)) (ys := ds) rfl (by omega) (by omega) (by omega) (fun n k i b => by rw [z6g]; rfl))
    obtain ⟨G1, G2, _, _, G5⟩ := laws_FnExactAddKnot__markFloat32S_l2_4_of0 rfl (mark_loop (L := z07 us.length) (k0 := 1) (ys := us) rfl (by omega) (by omega) (by omega) (fun n k i b => by rw [z6i]; rfl))
    obtain ⟨H1, H2, _, _, H5⟩ := laws_FnExactAddKnot__markFloat32S_l2_5_of0 rfl (mark_loop (L := z08 vs.length) (k0 := 1 + (us.length : Int)) (ys := vs) rfl (by omega) (by omega) (by omega) (fun n k i b => by rw [z6s]; rfl))
    obtain ⟨I1, I2, _, _, I5⟩ := laws_FnExactAddKnot__markFloat32S_l2_6_of0 rfl (mark_loop (L := z05 ws.length) (k0 := 1 + (us.length : Int) + (vs.length : Int)) (ys := ws) rfl (by omega) (by omega) (by omega) (fun n k i b => by rw [z6k]; rfl))
    obtain ⟨J1, J2⟩ := zf2 (laws_heldProfile_eq (k0 := 1) (l := us.length) (m := vs.length) (n := ws.length) (by omega) (by omega) (by omega) (by omega) (by omega))
    have z1 : ltI (1 + (as.length : Int) + (ls.length : Int) + (ds.length : Int)) 0 = false := ltI_f (by omega)
    have z2 : ltI (1 + (us.length : Int) + (vs.length : Int) + (ws.length : Int)) 0 = false := ltI_f (by omega)
    simp only [laws_FnExactAddKnot_c0, laws_FnExactAddKnot_c1, laws_FnExactAddKnot_c2, laws_FnExactAddKnot_c3, laws_FnExactAddKnot_c4, laws_FnExactAddKnot_c5, laws_FnExactAddKnot_c6, laws_FnExactAddKnot_c7, laws_FnExactAddKnot_c8, laws_FnExactAddKnot_c9, laws_FnExactAddKnot_c10, laws_FnExactAddKnot_c11, laws_FnExactAddKnot_c12, laws_FnExactAddKnot_c13, laws_FnExactAddKnot_c14, laws_FnExactAddKnot_c15, laws_FnExactAddKnot_c16, laws_FnExactAddKnot_c17, laws_FnExactAddKnot_c18, laws_FnExactAddKnot_c19, laws_FnExactAddKnot_c20, laws_FnExactAddKnot_c21, laws_FnExactAddKnot_c22, laws_FnExactAddKnot_c23, laws_FnExactAddKnot_c24, laws_FnExactAddKnot_c25, laws_FnExactAddKnot_c26, laws_FnExactAddKnot_c27, laws_FnExactAddKnot_c28, laws_FnExactAddKnot_c29, laws_FnExactAddKnot_c30, laws_FnExactAddKnot_c31, laws_FnExactAddKnot_c32, laws_FnExactAddKnot_c33, laws_FnExactAddKnot_c34, laws_FnExactAddKnot_c35, laws_FnExactAddKnot_c36, laws_FnExactAddKnot_c37, laws_FnExactAddKnot_c38, laws_FnExactAddKnot_c39, laws_FnExactAddKnot_c40, laws_FnExactAddKnot_c41, laws_FnExactAddKnot_c42, p3, a3, b3, d3, e3, f3, g3, pF_all, p5, q5, i0, i1, i2, i3, i4, i5, i6, i7, s0, s1, s2, s3, s4, s5, s6, s7, p7, q7, A1, A2, B1, B2, C1, C2, G1, G2, G5, H1, H2, H5, I1, I2, I5, marks_pF, J1, J2, z1, z2, grd_true, br_false, bnot_true, beqB_self, neI_self]
end Go.Rf
