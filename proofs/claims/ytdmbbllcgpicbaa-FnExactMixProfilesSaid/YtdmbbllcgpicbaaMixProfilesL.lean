/-
  Plain laws.
-/
import Derived.Test.YtdmbbllcgpicbaaMixProfilesP
set_option linter.unusedVariables false
set_option linter.unusedSimpArgs false
set_option maxRecDepth 100000
set_option maxHeartbeats 4000000
namespace Go.Rf
open Go
def finB (x : Nat) : Bool := fcmp .eql .f32 (fop .sub .f32 x x) 0
def leastB (x : Nat) : Bool := finB x && fcmp .geq .f32 x 0
theorem impl_IsFinite_eq (x : Nat) : zdp x = some (finB x) := rfl
theorem spec_l01Finite_eq (x : Nat) : zc8 x = some (finB x) := rfl
theorem impl_isLeast_eq (x : Nat) : zbo x = some (leastB x) := by
  obtain ⟨h1, h2⟩ := zga (impl_IsFinite_eq x)
  unfold zbo zbr leastB
  rw [h1, h2]
  cases finB x <;> rfl
theorem spec_l02Least_eq (x : Nat) : zav x = some (leastB x) := by
  obtain ⟨h1, h2⟩ := zg7 (spec_l01Finite_eq x)
  unfold zav zb4 leastB
  rw [h1, h2]
  cases finB x <;> rfl
theorem impl_areLeast_1_eq (x : Nat) : zac x = some (!leastB x) := by
  obtain ⟨h1, h2⟩ := zke (impl_isLeast_eq x)
  unfold zac za2
  rw [h1, h2]; rfl
theorem laws_sameFloat_refl (x : Nat) : zap x x = some true := by
  unfold zap zal
  simp only [neq_self]
  cases hn : nanB .f64 x with
  | true => rfl
  | false =>
    have he : fcmp .eql .f64 x x = true := by rw [(fcmp_num .f64 hn hn).1]; simp
    simp only [br_if, Bool.false_eq_true, if_false, he, beqB, BEq.rfl]
    split <;> rfl
theorem slices_IndexFunc_areLeast {xs : List Nat} (hl : xs.length < 281474976710656) : ∃ r : Int, z4l xs.length xs = some r ∧ leI 0 r = !xs.all leastB := by
  unfold z4l z4m
  rcases scan_all (L := z28 xs.length (Int.ofNat xs.length) xs) xs leastB (g := fun i => Int.ofNat i) (e := (Int.ofNat xs.length, false))
    (fun n i hi => by
      rw [z8k]; unfold z3l; rw [ltN_t hi, okIx_t hi, ix1, addI1 (by omega)]
      simp only [gF]
      generalize xs.getD i 0 = x
      obtain ⟨h1, h2⟩ := zjf (impl_areLeast_1_eq x)
      simp only [br_if, grd_true, h1, h2]
      rcases Bool.eq_false_or_eq_true (leastB x) with h | h <;> simp [h])
    (fun n => by rw [z8k]; unfold z3l; rw [ltN_f (Nat.le_refl _)]; rfl) hl with ⟨h1, h2⟩ | ⟨j, h2, h3, h4⟩
  · obtain ⟨g1, g2, _⟩ := zen rfl h2
    exact ⟨Int.negSucc 0, by rw [g1, g2]; rfl, by rw [h1]; rfl⟩
  · obtain ⟨g1, g2, g3⟩ := zep rfl h4
    exact ⟨Int.ofNat j, by rw [g1, g2, g3]; rfl, by rw [h3]; exact decide_eq_true (by simp)⟩
theorem slices_ContainsFunc_areLeast {xs : List Nat} (hl : xs.length < 281474976710656) : z4g xs.length xs = some (!xs.all leastB) := by
  obtain ⟨r, h1, h2⟩ := slices_IndexFunc_areLeast hl
  obtain ⟨g1, g2⟩ := zfo h1
  unfold z4g z4h
  rw [pF_all, g1, g2, h2]; rfl
theorem impl_areLeast_eq {xs : List Nat} (hl : xs.length < 281474976710656) : zaz xs.length xs = some (xs.all leastB) := by
  obtain ⟨g1, g2⟩ := zf3 (slices_ContainsFunc_areLeast hl)
  unfold zaz zb1
  rw [pF_all, g1, g2]
  simp [grd_true, bnot]
def fromToB (x low high : Nat) : Bool := fcmp .geq .f32 x low && fcmp .leq .f32 x high
theorem impl_isFromTo_eq (x low high : Nat) : zb3 x low high = some (fromToB x low high) := by
  unfold zb3 zax fromToB
  rcases Bool.eq_false_or_eq_true (fcmp .geq .f32 x low) with h | h <;> simp [h, br_if]
theorem laws_szFloat32S_eq (n : Nat) (xs : List Nat) (left : Int) : ∃ r, za7 n xs left = some r ∧ (0 ≤ left → left ≤ 1048576 → n ≤ 9223372036854775807 → (0 ≤ r → r = left - n ∧ (n : Int) ≤ left) ∧ r ≤ 1048576) := by
  unfold za7 za9
  by_cases h : subI .i64 left (Int.ofNat n) < 0
  · rw [ltI_t h]
    exact ⟨_, rfl, fun _ _ _ => ⟨fun q => by simp at q, by decide⟩⟩
  · rw [ltI_f h]
    refine ⟨_, rfl, fun h1 h2 h3 => ?_⟩
    have e : subI .i64 left (Int.ofNat n) = left - n := wrap64 (by simp; omega) (by simp; omega)
    rw [e] at h ⊢
    exact ⟨fun _ => ⟨rfl, by omega⟩, by omega⟩
theorem laws_toFloat32S_eq {xs : List Nat} (hl : xs.length ≤ 1099511627776) : z8l xs.length xs = some (xs.length, xs) := by
  have hf := folds (L := z4o xs.length xs.length xs) (len := xs.length) (fun i s => s.set i (xs.getD i 0)) (e := fun s => (Int.ofNat xs.length, false, s))
    (fun n i s hi => by rw [zfx]; unfold z6b; rw [ltN_t hi, okIx_t hi, ix1, addI1 (by omega)]; rfl)
    (fun n s => by rw [zfx]; unfold z6b; rw [ltN_f (Nat.le_refl _)]; rfl) xs.length 0 big (List.replicate xs.length 0) (by omega) (big_gt (by omega))
  rw [copy_fold xs _ _ _ (by omega) (by simp)] at hf
  simp only [List.take_zero, List.drop_zero, List.nil_append] at hf
  obtain ⟨g1, _, _, g2⟩ := zi6 rfl hf
  have e : rF (muN (toN (Int.ofNat xs.length)) 1) = List.replicate xs.length 0 := by simp [rF, muN, toN]
  have ho : okMk (Int.ofNat xs.length) (Int.ofNat xs.length) 4 = true := decide_eq_true ⟨rfl, by simp, by simp; omega, by decide⟩
  unfold z8l za3
  rw [e, ho, toN_nat]
  show grd (z9z xs.length xs.length xs (Int.ofNat 0) (List.replicate xs.length 0)) (some (_, z8j xs.length xs.length xs (Int.ofNat 0) (List.replicate xs.length 0))) = _
  rw [g1, g2]; rfl
theorem laws_eqFloat32S_refl {xs : List Nat} (hl : xs.length < 281474976710656) : zab xs.length xs xs.length xs = some true := by
  have hn : neI (Int.ofNat xs.length) (Int.ofNat xs.length) = false := by simp [neI]
  unfold zab za4
  rw [hn]
  rcases scan_all (L := z4n xs.length xs.length xs xs) xs (fun _ => true) (g := fun i => ()) (e := (Int.ofNat xs.length, false))
    (fun n i hi => by
      obtain ⟨h1, h2⟩ := zjp (laws_sameFloat_refl (fcvV FloatKind.f32 FloatKind.f64 (gF xs i)))
      rw [zfv]; unfold z6a; rw [ltN_t hi, okIx_t hi, ix1, addI1 (by omega), h1, h2]
      rfl)
    (fun n => by rw [zfv]; unfold z6a; rw [ltN_f (Nat.le_refl _)]; rfl) hl with ⟨h1, h2⟩ | ⟨j, h2, h3, h4⟩
  · obtain ⟨g1, g2, _⟩ := zi7 rfl h2
    rw [g1, g2]; rfl
  · simp at h3
theorem beqB_self (b : Bool) : beqB b b = true := by cases b <;> rfl
theorem neI_self (i : Int) : neI i i = false := by simp [neI]
theorem bnot_true : bnot true = false := rfl
theorem ltN (a b : Nat) : ltI (Int.ofNat a) (Int.ofNat b) = decide (a < b) := by by_cases h : a < b <;> simp [ltI, h] <;> omega
theorem get_mem {xs : List Nat} {i : Nat} (h : i < xs.length) : xs.getD i 0 ∈ xs := by
  rw [List.getD_eq_getElem?_getD, List.getElem?_eq_getElem h]; exact List.getElem_mem _
def marks (k0 : Int) (n : Nat) : List Nat := (List.range n).map fun (j : Nat) => fOI .f32 (k0 + (j : Int))
theorem marks_length (k0 : Int) (n : Nat) : (marks k0 n).length = n := by simp [marks]
theorem marks_get {k0 : Int} {n i : Nat} (h : i < n) : (marks k0 n).getD i 0 = fOI .f32 (k0 + (i : Int)) := by
  simp [marks, List.getD_eq_getElem?_getD, h]
theorem fOI_nan (k : FloatKind) (n : Int) : nanB k (fOI k n) = false := by
  rw [show fOI k n = floatOfInt k n from rfl, fOI_eq]
  exact nanB_word k _ (rnd_inf _ _ _)
theorem addI_in {a b : Int} (h1 : -9223372036854775808 ≤ a + b) (h2 : a + b ≤ 9223372036854775807) : addI .i64 a b = a + b := wrap64 h1 h2
theorem mark_loop {L : Nat → Int → Int → List Nat → Option (Int × Int × Bool × List Nat)} {len : Nat} {k0 : Int} {ys : List Nat} (hy : ys.length = len) (hk : 0 ≤ k0) (hk2 : k0 ≤ 1099511627776) (hl : len < 281474976710656)
    (hs : ∀ n k i b, L (n + 1) k i b = br (ltI i (Int.ofNat len)) (grd (okIx i len) (L n (addI .i64 k 1) (addI .i64 i 1) (sF b (ixO 0 i 1) (fOI .f32 k)))) (some (k, i, ltI i (Int.ofNat len), b))) :
    L big k0 0 ys = some (k0 + (len : Int), Int.ofNat len, false, marks k0 len) := by
  have hf := folds (L := fun n i s => L n (k0 + i) i s) (len := len) (fun i s => s.set i ((marks k0 len).getD i 0)) (e := fun s => (k0 + (len : Int), Int.ofNat len, false, s))
    (fun n i s hi => by
      show L _ _ _ _ = L _ _ _ _
      rw [hs, ltN_t hi, okIx_t hi, ix1, addI1 (by omega), addI_in (by simp; omega) (by simp; omega), marks_get hi]
      have : k0 + Int.ofNat i + 1 = k0 + Int.ofNat (i + 1) := by simp; omega
      rw [this]; rfl)
    (fun n s => by show L _ _ _ _ = _; rw [hs, ltN_f (Nat.le_refl _)]; rfl) len 0 big ys (by omega) (big_gt hl)
  have hm := copy_fold (marks k0 len) len 0 ys (by simp [marks_length]) (by rw [marks_length, hy])
  rw [hm] at hf
  simpa using hf
theorem laws_heldFloat32S_eq {k0 : Int} {n : Nat} (hk : 0 ≤ k0) (hk2 : k0 ≤ 1099511627776) (hl : n < 281474976710656) : z99 n (marks k0 n) k0 = some (k0 + (n : Int)) := by
  unfold z99 z9b
  rcases scan (L := fun m i => z3p n (marks k0 n) m (k0 + i) i) (len := n) (fun _ => true) (g := fun _ => ()) (e := (k0 + (n : Int), Int.ofNat n, false))
    (fun m i hi => by
      show z3p _ _ _ _ _ = _
      rw [zfc]; unfold z5r
      rw [ltN_t hi, okIx_t hi, ix1, addI1 (by omega), addI_in (by simp; omega) (by simp; omega)]
      have e : fcmp .neq .f32 (gF (marks k0 n) i) (fOI .f32 (k0 + Int.ofNat i)) = false := by
        show fcmp .neq .f32 ((marks k0 n).getD i 0) _ = false
        rw [marks_get hi]
        show fcmp .neq .f32 (fOI .f32 (k0 + Int.ofNat i)) (fOI .f32 (k0 + Int.ofNat i)) = false
        rw [neq_self, fOI_nan]
      have : k0 + Int.ofNat i + 1 = k0 + Int.ofNat (i + 1) := by simp; omega
      rw [e, this]; rfl)
    (fun m => by show z3p _ _ _ _ _ = _; rw [zfc]; unfold z5r; rw [ltN_f (Nat.le_refl _)]; rfl) n 0 big (by omega) (big_gt hl) with ⟨k1, k2⟩ | ⟨j, k1, k2, k3, k4⟩
  · have k2 : z3p n (marks k0 n) big k0 0 = some (Sum.inr (k0 + (n : Int), Int.ofNat n, false)) := by simpa using k2
    obtain ⟨g1, g2, g3, _⟩ := zhc rfl k2
    rw [g1, g2, g3]; rfl
  · cases k3
theorem take_succ_getD {ys : List Nat} {i : Nat} (h : i < ys.length) : ys.take i ++ [ys.getD i 0] = ys.take (i + 1) := by
  rw [List.take_succ_eq_append_getElem h]; simp [List.getD_eq_getElem?_getD, h]
theorem okA2_1 {n : Nat} {b : List Nat} (x : Nat) (hb : b.length = n) (hn : n < 1099511627776) : okA2 n 1 4 (nF (pF [x] 0 (muN 1 1))) (nF b) 1 = true :=
  decide_eq_true ⟨by omega, by omega, by simp [nF, pF, muN], by simp [nF, hb]⟩
theorem runs {ρ : Type} {L : Nat → Int → Option ρ} {len : Nat} {e : ρ} (hs : ∀ n i, i < len → L (n + 1) (Int.ofNat i) = L n (Int.ofNat (i + 1))) (he : ∀ n, L (n + 1) (Int.ofNat len) = some e) (hl : len < 281474976710656) : L big 0 = some e := by
  have := folds (L := fun n i (_ : Unit) => L n i) (len := len) (fun _ _ => ()) (e := fun _ => e) (fun n i _ hi => hs n i hi) (fun n _ => he n) len 0 big () (by omega) (big_gt hl)
  exact this
theorem impl_areFinite_1_eq (x : Nat) : z9k x = some (!finB x) := by
  obtain ⟨h1, h2⟩ := zga (impl_IsFinite_eq x)
  unfold z9k z9t
  rw [h1, h2]; rfl
theorem slices_IndexFunc_areFinite {xs : List Nat} (hl : xs.length < 281474976710656) : ∃ r : Int, z4k xs.length xs = some r ∧ leI 0 r = !xs.all finB := by
  unfold z4k z4j
  rcases scan_all (L := z1q xs.length (Int.ofNat xs.length) xs) xs finB (g := fun i => Int.ofNat i) (e := (Int.ofNat xs.length, false))
    (fun n i hi => by
      rw [z8g]; unfold z3g; rw [ltN_t hi, okIx_t hi, ix1, addI1 (by omega)]
      simp only [gF]
      generalize xs.getD i 0 = x
      obtain ⟨h1, h2⟩ := zj9 (impl_areFinite_1_eq x)
      simp only [br_if, grd_true, h1, h2]
      rcases Bool.eq_false_or_eq_true (finB x) with h | h <;> simp [h])
    (fun n => by rw [z8g]; unfold z3g; rw [ltN_f (Nat.le_refl _)]; rfl) hl with ⟨h1, h2⟩ | ⟨j, h2, h3, h4⟩
  · obtain ⟨g1, g2, _⟩ := zed rfl h2
    exact ⟨Int.negSucc 0, by rw [g1, g2]; rfl, by rw [h1]; rfl⟩
  · obtain ⟨g1, g2, g3⟩ := ze8 rfl h4
    exact ⟨Int.ofNat j, by rw [g1, g2, g3]; rfl, by rw [h3]; exact decide_eq_true (by simp)⟩
theorem slices_ContainsFunc_areFinite {xs : List Nat} (hl : xs.length < 281474976710656) : z4b xs.length xs = some (!xs.all finB) := by
  obtain ⟨r, h1, h2⟩ := slices_IndexFunc_areFinite hl
  obtain ⟨g1, g2⟩ := zff h1
  unfold z4b z4c
  rw [pF_all, g1, g2, h2]; rfl
theorem impl_areFinite_eq {xs : List Nat} (hl : xs.length < 281474976710656) : zao xs.length xs = some (xs.all finB) := by
  obtain ⟨g1, g2⟩ := zeo (slices_ContainsFunc_areFinite hl)
  unfold zao zaq
  rw [pF_all, g1, g2]
  simp [grd_true, bnot]
theorem put1 {xs zs : List Nat} (hz : zs.length = xs.length) {j : Nat} (h : j < xs.length) : (xs.take j ++ zs.drop j).set j (xs.getD j 0) = xs.take (j + 1) ++ zs.drop (j + 1) := by
  have h1 : (xs.take j).length = j := by simp; omega
  have h2 : zs.drop j = zs[j] :: zs.drop (j + 1) := List.drop_eq_getElem_cons (by omega)
  rw [← take_succ_getD h, h2, List.set_append_right j _ (by omega), h1, Nat.sub_self, List.set_cons_zero, List.append_assoc]
  rfl
theorem laws_szProfile_eq {as ls ds : List Nat} {left : Int} (ha : as.length ≤ maxLen) (hl : ls.length ≤ maxLen) (hd : ds.length ≤ maxLen) (h0 : 0 ≤ left) (h1 : left ≤ 1048576) :
    ∃ r, zas as.length as ls.length ls ds.length ds left = some r ∧ (0 ≤ r → as.length + ls.length + ds.length ≤ 1048576) ∧ r ≤ 1048576 := by
  have hm : maxLen = 9223372036854775807 := by decide
  rw [hm] at ha hl hd
  obtain ⟨r1, h2, k1⟩ := laws_szFloat32S_eq as.length as left
  obtain ⟨p1, q1⟩ := zfz h2
  obtain ⟨k1, k1'⟩ := k1 h0 h1 ha
  obtain ⟨r2, h3, k2⟩ := laws_szFloat32S_eq ls.length ls r1
  obtain ⟨p2, q2⟩ := zfz h3
  obtain ⟨r3, h4, k3⟩ := laws_szFloat32S_eq ds.length ds r2
  obtain ⟨p3, q3⟩ := zfz h4
  unfold zas zak
  simp only [pF_all, p1, q1, grd_true, p2, q2, p3, q3]
  by_cases c1 : r1 < 0
  · rw [ltI_t c1]
    exact ⟨_, rfl, fun h => by simp at h, by decide⟩
  · rw [ltI_f c1]
    obtain ⟨e1, e2⟩ := k1 (by omega)
    obtain ⟨k2, k2'⟩ := k2 (by omega) (by omega) hl
    by_cases c2 : r2 < 0
    · rw [ltI_t c2]
      exact ⟨_, rfl, fun h => by simp at h, by decide⟩
    · rw [ltI_f c2]
      obtain ⟨e3, e4⟩ := k2 (by omega)
      obtain ⟨k3, k3'⟩ := k3 (by omega) (by omega) hd
      by_cases c3 : r3 < 0
      · rw [ltI_t c3]
        exact ⟨_, rfl, fun h => by simp at h, by decide⟩
      · rw [ltI_f c3]
        obtain ⟨e5, e6⟩ := k3 (by omega)
        exact ⟨_, rfl, fun h => by omega, by omega⟩
theorem laws_toProfile_eq {as ls ds : List Nat} (ha : as.length ≤ 1099511627776) (hl : ls.length ≤ 1099511627776) (hd : ds.length ≤ 1099511627776) : z6e as.length as ls.length ls ds.length ds = some (as.length, ls.length, ds.length, as, ls, ds) := by
  obtain ⟨p1, q1, r1⟩ := zg1 (laws_toFloat32S_eq ha)
  obtain ⟨p2, q2, r2⟩ := zg1 (laws_toFloat32S_eq hl)
  obtain ⟨p3, q3, r3⟩ := zg1 (laws_toFloat32S_eq hd)
  unfold z6e zaj
  simp only [pF_all, p1, q1, r1, p2, q2, r2, p3, q3, r3, grd_true]
theorem laws_eqProfile_refl {as ls ds : List Nat} (ha : as.length < 281474976710656) (hl : ls.length < 281474976710656) (hd : ds.length < 281474976710656) : zat as.length as ls.length ls ds.length ds as.length as ls.length ls ds.length ds = some true := by
  obtain ⟨p1, q1⟩ := zfy (laws_eqFloat32S_refl ha)
  obtain ⟨p2, q2⟩ := zfy (laws_eqFloat32S_refl hl)
  obtain ⟨p3, q3⟩ := zfy (laws_eqFloat32S_refl hd)
  unfold zat zam
  simp only [pF_all, p1, q1, p2, q2, p3, q3, grd_true]
  rfl
def knotB (as : List Nat) (j : Nat) : Bool := fromToB (as.getD j 0) 3204448256 1056964608 && (decide (j = 0) || !fcmp .leq .f32 (as.getD j 0) (as.getD (j - 1) 0))
def profB (as ls ds : List Nat) (j : Nat) : Bool := knotB as j && (finB (ls.getD j 0) && leastB (ds.getD j 0))
def validProfB (as ls ds : List Nat) : Bool := decide (2 ≤ as.length) && (decide (as.length ≤ 24) && (decide (ls.length = as.length) && (decide (ds.length = as.length) && (List.range as.length).all (profB as ls ds))))
theorem range_all {n : Nat} {p : Nat → Bool} : (List.range n).all p = true ↔ ∀ j, j < n → p j = true := by simp [List.all_eq_true]
theorem geq_leq {x y : Nat} : fcmp .geq .f32 x y = fcmp .leq .f32 y x := by
  cases hx : nanB .f32 x with
  | true => rw [(fcmp_nan .f32 (.inl hx)).2.2.2.2.2, (fcmp_nan .f32 (.inr hx)).2.2.2.1]
  | false =>
    cases hy : nanB .f32 y with
    | true => rw [(fcmp_nan .f32 (.inr hy)).2.2.2.2.2, (fcmp_nan .f32 (.inl hy)).2.2.2.1]
    | false => rw [(fcmp_num .f32 hx hy).2.2.2.2.2, (fcmp_num .f32 hy hx).2.2.2.1]
theorem ltN0 (i : Nat) : ltI 0 (Int.ofNat i) = !decide (i = 0) := by
  rw [show ltI 0 (Int.ofNat i) = decide (0 < i) from ltN 0 i]
  by_cases h : i = 0
  · rw [decide_eq_true h, decide_eq_false (by omega)]; rfl
  · rw [decide_eq_false h, decide_eq_true (by omega)]; rfl
theorem subN1 {i : Nat} (h : i ≠ 0) (h2 : i < 4611686018427387904) : subI .i64 (Int.ofNat i) 1 = Int.ofNat (i - 1) := by
  have : subI .i64 (Int.ofNat i) 1 = (i : Int) - 1 := wrap64 (by simp; omega) (by simp; omega)
  rw [this]; simp; omega
theorem impl_ValidProfile_loop {as : List Nat} (hl : as.length ≤ 24) :
    z7f as.length (Int.ofNat as.length) as as.length 0 = true ∧ z74 as.length (Int.ofNat as.length) as as.length 0 = !(List.range as.length).all (knotB as) := by
  rcases scan (L := z42 as.length (Int.ofNat as.length) as as.length) (len := as.length) (knotB as) (g := fun _ => ()) (e := (Int.ofNat as.length, false))
    (fun n i hi => by
      rw [zfd]; unfold z5d
      obtain ⟨p1, q1⟩ := zk3 (impl_isFromTo_eq (as.getD i 0) 3204448256 1056964608)
      rw [ltN_t hi, okIx_t hi, ix1, addI1 (by omega), ltN0]
      simp only [gF, p1, q1, grd_true, br_true]
      unfold knotB
      by_cases h0 : i = 0
      · subst h0
        cases fromToB (as.getD 0 0) 3204448256 1056964608 <;> rfl
      · rw [subN1 h0 (by omega), okIx_t (show i - 1 < as.length by omega), ix1, geq_leq, decide_eq_false h0]
        cases fromToB (as.getD i 0) 3204448256 1056964608
        · rfl
        · cases fcmp .leq .f32 (as.getD i 0) (as.getD (i - 1) 0) <;> rfl)
    (fun n => by rw [zfd]; unfold z5d; rw [ltN_f (Nat.le_refl _)]; rfl) as.length 0 big (by omega) (big_gt (by omega)) with ⟨h1, h2⟩ | ⟨j, _, h2, h3, h4⟩
  · obtain ⟨g1, g2, _⟩ := zhi rfl h2
    rw [range_all.2 fun j hj => h1 j (Nat.zero_le _) hj]
    exact ⟨g1, g2⟩
  · obtain ⟨g1, g2⟩ := zh7 rfl h4
    have : (List.range as.length).all (knotB as) = false := by
      cases hh : (List.range as.length).all (knotB as) with
      | false => rfl
      | true => rw [range_all.1 hh j h2] at h3; cases h3
    rw [this]
    exact ⟨g1, g2⟩
theorem all_getD {xs : List Nat} {p : Nat → Bool} : xs.all p = true ↔ ∀ j, j < xs.length → p (xs.getD j 0) = true := by
  rw [List.all_eq_true]
  constructor
  · intro h j hj; exact h _ (get_mem hj)
  · intro h x hx
    obtain ⟨i, hi, rfl⟩ := List.getElem_of_mem hx
    have := h i hi
    simpa [List.getD_eq_getElem?_getD, hi] using this
theorem ltN2 (n : Nat) : ltI (Int.ofNat n) 2 = !decide (2 ≤ n) := by
  rw [show ltI (Int.ofNat n) 2 = decide (n < 2) from ltN n 2]
  by_cases h : 2 ≤ n
  · rw [decide_eq_true h, decide_eq_false (by omega)]; rfl
  · rw [decide_eq_false h, decide_eq_true (by omega)]; rfl
theorem gtN (c n : Nat) : ltI (Int.ofNat c) (Int.ofNat n) = !decide (n ≤ c) := by
  rw [ltN]
  by_cases h : n ≤ c
  · rw [decide_eq_true h, decide_eq_false (by omega)]; rfl
  · rw [decide_eq_false h, decide_eq_true (by omega)]; rfl
theorem neN (m n : Nat) : neI (Int.ofNat m) (Int.ofNat n) = !decide (m = n) := by
  unfold neI
  by_cases h : m = n
  · subst h; simp
  · rw [decide_eq_false h]; simp; omega
theorem impl_ValidProfile_eq {as ls ds : List Nat} (hl : ls.length < 281474976710656) (hd : ds.length < 281474976710656) : z9d as.length as ls.length ls ds.length ds = some (validProfB as ls ds) := by
  obtain ⟨p1, q1⟩ := zju (impl_areFinite_eq hl)
  obtain ⟨p2, q2⟩ := zk7 (impl_areLeast_eq hd)
  unfold z9d z9a validProfB
  rw [ltN2, show ltI 24 (Int.ofNat as.length) = !decide (as.length ≤ 24) from gtN 24 _, neN, neN]
  simp only [pF_all, p1, q1, p2, q2, grd_true]
  by_cases c1 : 2 ≤ as.length
  · by_cases c2 : as.length ≤ 24
    · by_cases c3 : ls.length = as.length
      · by_cases c4 : ds.length = as.length
        · obtain ⟨g1, g2⟩ := impl_ValidProfile_loop c2
          rw [decide_eq_true c1, decide_eq_true c2, decide_eq_true c3, decide_eq_true c4, g1, g2]
          have key : (List.range as.length).all (profB as ls ds) = (ls.all finB && (ds.all leastB && (List.range as.length).all (knotB as))) := by
            rw [Bool.eq_iff_iff, Bool.and_eq_true, Bool.and_eq_true, range_all, range_all, all_getD, all_getD, c3, c4]
            constructor
            · intro h
              refine ⟨fun j hj => ?_, fun j hj => ?_, fun j hj => ?_⟩
              all_goals have := h j hj; unfold profB at this; simp only [Bool.and_eq_true] at this
              · exact this.2.1
              · exact this.2.2
              · exact this.1
            · rintro ⟨h1, h2, h3⟩ j hj
              unfold profB
              rw [h1 j hj, h2 j hj, h3 j hj]; rfl
          rw [key]
          cases ls.all finB <;> cases ds.all leastB <;> cases (List.range as.length).all (knotB as) <;> rfl
        · rw [decide_eq_false c4]
          rw [decide_eq_true c1, decide_eq_true c2, decide_eq_true c3]; rfl
      · rw [decide_eq_false c3]
        rw [decide_eq_true c1, decide_eq_true c2]; rfl
    · rw [decide_eq_false c2]
      rw [decide_eq_true c1]; rfl
  · rw [decide_eq_false c1]; rfl
theorem spec_l02Is_eq {as ls ds : List Nat} : zey as.length as ls.length ls ds.length ds = some (validProfB as ls ds) := by
  unfold zey zf0 validProfB
  rw [ltN2, show ltI 24 (Int.ofNat as.length) = !decide (as.length ≤ 24) from gtN 24 _, neN, neN]
  by_cases c1 : 2 ≤ as.length
  · by_cases c2 : as.length ≤ 24
    · by_cases c3 : ls.length = as.length
      · by_cases c4 : ds.length = as.length
        · rw [decide_eq_true c1, decide_eq_true c2, decide_eq_true c3, decide_eq_true c4]
          rcases scan (L := z65 (Int.ofNat as.length) as ls ds as.length ls.length ds.length) (len := as.length) (profB as ls ds) (g := fun _ => ()) (e := (Int.ofNat as.length, false))
            (fun n i hi => by
              rw [zgc]; unfold z8c
              obtain ⟨p1, q1⟩ := zg7 (spec_l01Finite_eq (ls.getD i 0))
              obtain ⟨p2, q2⟩ := zjx (spec_l02Least_eq (ds.getD i 0))
              rw [ltN_t hi, okIx_t hi, ix1, addI1 (by omega), ltN0, okIx_t (show i < ls.length by omega), okIx_t (show i < ds.length by omega)]
              simp only [gF, p1, q1, p2, q2, grd_true, br_true]
              unfold profB knotB fromToB
              by_cases h0 : i = 0
              · subst h0
                cases fcmp .geq .f32 (as.getD 0 0) 3204448256 <;> cases fcmp .leq .f32 (as.getD 0 0) 1056964608 <;> cases finB (ls.getD 0 0) <;> cases leastB (ds.getD 0 0) <;> rfl
              · rw [subN1 h0 (by omega), okIx_t (show i - 1 < as.length by omega), ix1, decide_eq_false h0]
                cases fcmp .geq .f32 (as.getD i 0) 3204448256 <;> cases fcmp .leq .f32 (as.getD i 0) 1056964608 <;> cases fcmp .leq .f32 (as.getD i 0) (as.getD (i - 1) 0) <;> cases finB (ls.getD i 0) <;> cases leastB (ds.getD i 0) <;> rfl)
            (fun n => by rw [zgc]; unfold z8c; rw [ltN_f (Nat.le_refl _)]; rfl) as.length 0 big (by omega) (big_gt (by omega)) with ⟨h1, h2⟩ | ⟨j, _, h2, h3, h4⟩
          · obtain ⟨g1, g2, _⟩ := zjv rfl h2
            rw [range_all.2 fun j hj => h1 j (Nat.zero_le _) hj]
            show grd (z8v (Int.ofNat as.length) as ls ds as.length ls.length ds.length (Int.ofNat 0)) (br (z8e (Int.ofNat as.length) as ls ds as.length ls.length ds.length (Int.ofNat 0)) _ _) = _
            rw [g1, g2]; rfl
          · obtain ⟨g1, g2⟩ := zjq rfl h4
            have : (List.range as.length).all (profB as ls ds) = false := by
              cases hh : (List.range as.length).all (profB as ls ds) with
              | false => rfl
              | true => rw [range_all.1 hh j h2] at h3; cases h3
            rw [this]
            show grd (z8v (Int.ofNat as.length) as ls ds as.length ls.length ds.length (Int.ofNat 0)) (br (z8e (Int.ofNat as.length) as ls ds as.length ls.length ds.length (Int.ofNat 0)) _ _) = _
            rw [g1, g2]; rfl
        · rw [decide_eq_false c4]
          rw [decide_eq_true c1, decide_eq_true c2, decide_eq_true c3]; rfl
      · rw [decide_eq_false c3]
        rw [decide_eq_true c1, decide_eq_true c2]; rfl
    · rw [decide_eq_false c2]
      rw [decide_eq_true c1]; rfl
  · rw [decide_eq_false c1]; rfl
theorem marks_pF (k0 : Int) (m : Nat) : pF (marks k0 m) 0 (muN m 1) = marks k0 m := by
  have := pF_all (marks k0 m); rw [marks_length] at this; exact this
theorem unk_same {R : Type} {c : Bool} {x y : Option R} (h : c = true → x = y) : unk c x y = y := by
  unfold unk
  cases c
  · rfl
  · rw [h rfl]; simp
theorem slices_Clone_eq {xs : List Nat} (hl : xs.length ≤ 1099511627776) : z75 xs.length xs = some (xs.length, xs) := by
  have ho : okA2 0 xs.length 4 (nF xs) (nF []) 1 = true := decide_eq_true ⟨by omega, by omega, by simp [nF], by simp [nF]⟩
  unfold z75 z83
  rw [pF_all, ho, unk_same]
  · show some (0 + xs.length, xs) = _
    rw [Nat.zero_add]
  · intro h
    have h0 : xs.length = 0 := of_decide_eq_true h
    obtain rfl := List.eq_nil_of_length_eq_zero h0
    rfl
theorem impl_copyProfile_eq {as ls ds : List Nat} (ha : as.length ≤ 1099511627776) (hl : ls.length ≤ 1099511627776) (hd : ds.length ≤ 1099511627776) :
    z5x as.length as ls.length ls ds.length ds = some (as.length, ls.length, ds.length, as, ls, ds) := by
  obtain ⟨p1, q1, r1⟩ := zc0 (slices_Clone_eq ha)
  obtain ⟨p2, q2, r2⟩ := zc0 (slices_Clone_eq hl)
  obtain ⟨p3, q3, r3⟩ := zc0 (slices_Clone_eq hd)
  unfold z5x z9j
  simp only [pF_all, p1, q1, r1, p2, q2, r2, p3, q3, r3, grd_true]
def eqAll (xs ys : List Nat) : Bool := decide (xs.length = ys.length) && (List.range xs.length).all fun i => !fcmp .neq .f32 (xs.getD i 0) (ys.getD i 0)
theorem slices_Equal_eq {xs ys : List Nat} (hl : xs.length < 281474976710656) : z81 xs.length xs ys.length ys = some (eqAll xs ys) := by
  unfold z81 z82 eqAll
  rw [neN]
  by_cases h : xs.length = ys.length
  · rw [decide_eq_true h]
    rcases scan (L := z3q xs.length ys.length (Int.ofNat xs.length) xs ys) (len := xs.length) (fun i => !fcmp .neq .f32 (xs.getD i 0) (ys.getD i 0)) (g := fun _ => ()) (e := (Int.ofNat xs.length, false))
      (fun n i hi => by
        rw [zct]; unfold z4p; rw [ltN_t hi, okIx_t hi, ix1, addI1 (by omega), okIx_t (show i < ys.length by omega)]
        simp only [br_true, grd_true, gF]
        cases fcmp .neq .f32 (xs.getD i 0) (ys.getD i 0) <;> rfl)
      (fun n => by rw [zct]; unfold z4p; rw [ltN_f (Nat.le_refl _)]; rfl) xs.length 0 big (by omega) (big_gt hl) with ⟨k1, k2⟩ | ⟨j, k1, k2, k3, k4⟩
    · obtain ⟨g1, g2, _⟩ := zgg rfl k2
      rw [range_all.2 fun j hj => k1 j (Nat.zero_le _) hj]
      show br _ _ (grd (z56 xs.length ys.length (Int.ofNat xs.length) xs ys (Int.ofNat 0)) (br (z4s xs.length ys.length (Int.ofNat xs.length) xs ys (Int.ofNat 0)) _ _)) = _
      rw [g1, g2]; rfl
    · obtain ⟨g1, g2⟩ := zgh rfl k4
      have : ((List.range xs.length).all fun i => !fcmp .neq .f32 (xs.getD i 0) (ys.getD i 0)) = false := by
        cases hh : (List.range xs.length).all fun i => !fcmp .neq .f32 (xs.getD i 0) (ys.getD i 0) with
        | false => rfl
        | true => have := range_all.1 hh j k2; rw [k3] at this; cases this
      rw [this]
      show br _ _ (grd (z56 xs.length ys.length (Int.ofNat xs.length) xs ys (Int.ofNat 0)) (br (z4s xs.length ys.length (Int.ofNat xs.length) xs ys (Int.ofNat 0)) _ _)) = _
      rw [g1, g2]; rfl
  · rw [decide_eq_false h]; rfl
def mixed (a b s : Nat) : Nat := fop .add .f32 a (fop .mul .f32 s (fop .sub .f32 b a))
def mixL (xs ys : List Nat) (s : Nat) : List Nat := (List.range xs.length).map fun i => mixed (xs.getD i 0) (ys.getD i 0) s
theorem mixL_length (xs ys : List Nat) (s : Nat) : (mixL xs ys s).length = xs.length := by simp [mixL]
theorem mixL_get {xs ys : List Nat} {s i : Nat} (h : i < xs.length) : (mixL xs ys s).getD i 0 = mixed (xs.getD i 0) (ys.getD i 0) s := by simp [mixL, List.getD_eq_getElem?_getD, h]
theorem impl_Mix_loop {ls ds ls' ds' : List Nat} {s n : Nat} (h1 : ls.length = n) (h2 : ds.length = n) (h3 : ls'.length = n) (h4 : ds'.length = n) (hn : n ≤ 24) :
    z3o s (Int.ofNat n) ls ds ls' ds' ls.length ds.length ls'.length ds'.length ls.length ds.length big 0 ls ds = some (Int.ofNat n, false, mixL ls ls' s, mixL ds ds' s) := by
  have := runs (L := fun m i => z3o s (Int.ofNat n) ls ds ls' ds' ls.length ds.length ls'.length ds'.length ls.length ds.length m i ((mixL ls ls' s).take i.toNat ++ ls.drop i.toNat) ((mixL ds ds' s).take i.toNat ++ ds.drop i.toNat)) (len := n) (e := (Int.ofNat n, false, mixL ls ls' s, mixL ds ds' s))
    (fun m i hi => by
      show z3o _ _ _ _ _ _ _ _ _ _ _ _ _ _ ((mixL ls ls' s).take i ++ ls.drop i) ((mixL ds ds' s).take i ++ ds.drop i) = z3o _ _ _ _ _ _ _ _ _ _ _ _ _ _ ((mixL ls ls' s).take (i + 1) ++ ls.drop (i + 1)) ((mixL ds ds' s).take (i + 1) ++ ds.drop (i + 1))
      obtain ⟨p1, q1⟩ := zj0 (show zf4 (ls.getD i 0) (ls'.getD i 0) s = some (mixed (ls.getD i 0) (ls'.getD i 0) s) from rfl)
      obtain ⟨p2, q2⟩ := zj0 (show zf4 (ds.getD i 0) (ds'.getD i 0) s = some (mixed (ds.getD i 0) (ds'.getD i 0) s) from rfl)
      rw [zfm]; unfold z63
      rw [ltN_t hi, okIx_t (show i < ls.length by omega), okIx_t (show i < ds.length by omega), okIx_t (show i < ls'.length by omega), okIx_t (show i < ds'.length by omega), ix1, addI1 (by omega)]
      simp only [br_true, grd_true, gF, p1, q1, p2, q2]
      rw [← put1 (xs := mixL ls ls' s) (zs := ls) (by rw [mixL_length]) (by rw [mixL_length]; omega), ← put1 (xs := mixL ds ds' s) (zs := ds) (by rw [mixL_length]) (by rw [mixL_length]; omega), mixL_get (xs := ls) (by omega), mixL_get (xs := ds) (by omega)])
    (fun m => by
      show z3o _ _ _ _ _ _ _ _ _ _ _ _ _ _ ((mixL ls ls' s).take n ++ ls.drop n) ((mixL ds ds' s).take n ++ ds.drop n) = _
      rw [zfm]; unfold z63
      rw [ltN_f (Nat.le_refl _), br_false, List.take_of_length_le (by rw [mixL_length]; omega), List.take_of_length_le (by rw [mixL_length]; omega), List.drop_of_length_le (by omega), List.drop_of_length_le (by omega), List.append_nil, List.append_nil]) (by omega)
  simpa using this
theorem spec_Mix_loop {as ls ds as' ls' ds' : List Nat} {s n : Nat} (h0 : as.length = n) (h0' : as'.length = n) (h1 : ls.length = n) (h2 : ds.length = n) (h3 : ls'.length = n) (h4 : ds'.length = n) (hn : n ≤ 24) :
    (((List.range n).all fun i => !fcmp .neq .f32 (as.getD i 0) (as'.getD i 0)) = true ∧ z2z s as ls ds as' ls' ds' as.length ls.length ds.length as'.length ls'.length ds'.length big 0 0 0 0 [] [] [] = some (.inr (Int.ofNat n, false, n, n, n, as, mixL ls ls' s, mixL ds ds' s))) ∨
    (((List.range n).all fun i => !fcmp .neq .f32 (as.getD i 0) (as'.getD i 0)) = false ∧ z2z s as ls ds as' ls' ds' as.length ls.length ds.length as'.length ls'.length ds'.length big 0 0 0 0 [] [] [] = some (.inl ())) := by
  rcases scan (L := fun m i => z2z s as ls ds as' ls' ds' as.length ls.length ds.length as'.length ls'.length ds'.length m i i.toNat i.toNat i.toNat (as.take i.toNat) ((mixL ls ls' s).take i.toNat) ((mixL ds ds' s).take i.toNat)) (len := n) (fun i => !fcmp .neq .f32 (as.getD i 0) (as'.getD i 0)) (g := fun _ => ()) (e := (Int.ofNat n, false, n, n, n, as, mixL ls ls' s, mixL ds ds' s))
    (fun m i hi => by
      show z2z _ _ _ _ _ _ _ _ _ _ _ _ _ _ _ i i i (as.take i) ((mixL ls ls' s).take i) ((mixL ds ds' s).take i) = if _ then z2z _ _ _ _ _ _ _ _ _ _ _ _ _ _ _ (i + 1) (i + 1) (i + 1) (as.take (i + 1)) ((mixL ls ls' s).take (i + 1)) ((mixL ds ds' s).take (i + 1)) else _
      rw [zfp]; unfold z64
      rw [h0, ltN_t hi, okIx_t hi, okIx_t (show i < ls.length by omega), okIx_t (show i < ds.length by omega), okIx_t (show i < ls'.length by omega), okIx_t (show i < ds'.length by omega), okIx_t (show i < as'.length by omega), ix1, addI1 (by omega)]
      rw [okA2_1 _ (b := as.take i) (by rw [List.length_take]; omega) (by omega), okA2_1 _ (b := (mixL ls ls' s).take i) (by rw [List.length_take, mixL_length]; omega) (by omega), okA2_1 _ (b := (mixL ds ds' s).take i) (by rw [List.length_take, mixL_length]; omega) (by omega)]
      rw [← take_succ_getD (ys := as) (by omega), ← take_succ_getD (ys := mixL ls ls' s) (by rw [mixL_length]; omega), ← take_succ_getD (ys := mixL ds ds' s) (by rw [mixL_length]; omega), mixL_get (xs := ls) (by omega), mixL_get (xs := ds) (by omega)]
      simp only [br_true, grd_true, gF]
      cases fcmp .neq .f32 (as.getD i 0) (as'.getD i 0) <;> rfl)
    (fun m => by
      show z2z _ _ _ _ _ _ _ _ _ _ _ _ _ _ _ n n n (as.take n) ((mixL ls ls' s).take n) ((mixL ds ds' s).take n) = _
      rw [zfp]; unfold z64
      rw [h0, ltN_f (Nat.le_refl _), br_false, List.take_of_length_le (by omega), List.take_of_length_le (by rw [mixL_length]; omega), List.take_of_length_le (by rw [mixL_length]; omega)]) n 0 big (by omega) (big_gt (by omega)) with ⟨k1, k2⟩ | ⟨j, k1, k2, k3, k4⟩
  · exact .inl ⟨range_all.2 fun j hj => k1 j (Nat.zero_le _) hj, k2⟩
  · refine .inr ⟨?_, k4⟩
    cases hh : (List.range n).all fun i => !fcmp .neq .f32 (as.getD i 0) (as'.getD i 0) with
    | false => rfl
    | true => have := range_all.1 hh j k2; rw [k3] at this; cases this
theorem validProfB_len {as ls ds : List Nat} (h : validProfB as ls ds = true) : 2 ≤ as.length ∧ as.length ≤ 24 ∧ ls.length = as.length ∧ ds.length = as.length := by
  unfold validProfB at h
  simp only [Bool.and_eq_true, decide_eq_true_eq] at h
  exact ⟨h.1, h.2.1, h.2.2.1, h.2.2.2.1⟩
def mixR (as ls ds as' ls' ds' : List Nat) (s : Nat) : Nat × Nat × Nat × Bool × List Nat × List Nat × List Nat :=
  if validProfB as ls ds = true then (if validProfB as' ls' ds' = true then (if finB s = true then (if eqAll as as' = true then (if validProfB as (mixL ls ls' s) (mixL ds ds' s) = true then (as.length, ls.length, ds.length, true, as, mixL ls ls' s, mixL ds ds' s)
  else (0, 0, 0, false, [], [], [])) else (0, 0, 0, false, [], [], [])) else (0, 0, 0, false, [], [], [])) else (0, 0, 0, false, [], [], [])) else (0, 0, 0, false, [], [], [])
theorem impl_MixProfiles_eq {as ls ds as' ls' ds' : List Nat} (s : Nat) (ha : as.length < 281474976710656) (hl : ls.length < 281474976710656) (hd : ds.length < 281474976710656) (hl' : ls'.length < 281474976710656) (hd' : ds'.length < 281474976710656) :
    z55 as.length as ls.length ls ds.length ds as'.length as' ls'.length ls' ds'.length ds' s = some (mixR as ls ds as' ls' ds' s) := by
  obtain ⟨p1, q1⟩ := zfk (impl_ValidProfile_eq (as := as) hl hd)
  obtain ⟨p2, q2⟩ := zfk (impl_ValidProfile_eq (as := as') hl' hd')
  obtain ⟨p3, q3⟩ := zga (impl_IsFinite_eq s)
  obtain ⟨p4, q4⟩ := zhb (slices_Equal_eq (ys := as') ha)
  unfold z55 z9q mixR
  simp only [pF_all, p1, q1, p2, q2, p3, q3, p4, q4, grd_true]
  cases h1 : validProfB as ls ds
  · rfl
  · cases h2 : validProfB as' ls' ds'
    · rfl
    · cases finB s
      · rfl
      · cases h3 : eqAll as as'
        · rfl
        · obtain ⟨c1, c2, c3, c4⟩ := validProfB_len h1
          obtain ⟨d1, d2, d3, d4⟩ := validProfB_len h2
          have hlen : as.length = as'.length := by
            unfold eqAll at h3
            simp only [Bool.and_eq_true, decide_eq_true_eq] at h3
            exact h3.1
          obtain ⟨e0, e1, e2, e3, e4, e5, e6⟩ := zjd (impl_copyProfile_eq (as := as) (ls := ls) (ds := ds) (by omega) (by omega) (by omega))
          obtain ⟨g1, _, _, g2, g3⟩ := zhm rfl (impl_Mix_loop (ls := ls) (ds := ds) (ls' := ls') (ds' := ds') (s := s) (n := as.length) (by omega) (by omega) (by omega) (by omega) c2)
          have m1 := mixL_length ls ls' s
          have m2 := mixL_length ds ds' s
          obtain ⟨p5, q5⟩ := zfk (impl_ValidProfile_eq (as := as) (ls := mixL ls ls' s) (ds := mixL ds ds' s) (by omega) (by omega))
          rw [m1, m2] at p5 q5
          have pm1 : pF (mixL ls ls' s) 0 (muN ls.length 1) = mixL ls ls' s := by rw [← m1]; exact pF_all _
          have pm2 : pF (mixL ds ds' s) 0 (muN ds.length 1) = mixL ds ds' s := by rw [← m2]; exact pF_all _
          simp only [e0, e1, e2, e3, e4, e5, e6, g1, g2, g3, pF_all, pm1, pm2, p5, q5, grd_true, bnot_true, br_false, if_true]
          cases validProfB as (mixL ls ls' s) (mixL ds ds' s) <;> rfl
theorem spec_MixProfiles_eq {as ls ds as' ls' ds' : List Nat} (s : Nat) :
    z57 as.length as ls.length ls ds.length ds as'.length as' ls'.length ls' ds'.length ds' s = some (mixR as ls ds as' ls' ds' s) := by
  obtain ⟨p1, q1⟩ := zgw (spec_l02Is_eq (as := as) (ls := ls) (ds := ds))
  obtain ⟨p2, q2⟩ := zgw (spec_l02Is_eq (as := as') (ls := ls') (ds := ds'))
  obtain ⟨p3, q3⟩ := zg7 (spec_l01Finite_eq s)
  obtain ⟨n0, n1, n2, n3⟩ := zkh (show zb5 = some ([], [], []) from rfl)
  unfold z57 z9s mixR
  rw [neN]
  simp only [pF_all, p1, q1, p2, q2, p3, q3, n0, n1, n2, n3, grd_true]
  cases h1 : validProfB as ls ds
  · rfl
  · cases h2 : validProfB as' ls' ds'
    · rfl
    · by_cases hlen : as.length = as'.length
      · rw [decide_eq_true hlen]
        cases finB s
        · rfl
        · obtain ⟨c1, c2, c3, c4⟩ := validProfB_len h1
          obtain ⟨d1, d2, d3, d4⟩ := validProfB_len h2
          have heq : eqAll as as' = (List.range as.length).all fun i => !fcmp .neq .f32 (as.getD i 0) (as'.getD i 0) := by unfold eqAll; rw [decide_eq_true hlen]; rfl
          rw [heq]
          rcases spec_Mix_loop (as := as) (ls := ls) (ds := ds) (as' := as') (ls' := ls') (ds' := ds') (s := s) (n := as.length) rfl hlen.symm c3 c4 (by omega) (by omega) c2 with ⟨k1, k2⟩ | ⟨k1, k2⟩
          · obtain ⟨g1, g2, _, _, g3, g4, g5, g6, g7, g8⟩ := zhq rfl k2
            have m1 := mixL_length ls ls' s
            have m2 := mixL_length ds ds' s
            obtain ⟨p5, q5⟩ := zgw (spec_l02Is_eq (as := as) (ls := mixL ls ls' s) (ds := mixL ds ds' s))
            rw [m1, m2, c3, c4] at p5 q5
            have pm1 : pF (mixL ls ls' s) 0 (muN as.length 1) = mixL ls ls' s := by rw [← c3, ← m1]; exact pF_all _
            have pm2 : pF (mixL ds ds' s) 0 (muN as.length 1) = mixL ds ds' s := by rw [← c4, ← m2]; exact pF_all _
            simp only [g1, g2, g3, g4, g5, g6, g7, g8, pF_all, pm1, pm2, p5, q5, k1, grd_true, bnot_true, br_false, if_true]
            rw [c3, c4]
            cases validProfB as (mixL ls ls' s) (mixL ds ds' s) <;> rfl
          · obtain ⟨g1, g2⟩ := zhr rfl k2
            simp only [g1, g2, k1, grd_true, bnot_true, br_false, br_true, if_true]; rfl
      · have heq : eqAll as as' = false := by unfold eqAll; rw [decide_eq_false hlen]; rfl
        rw [decide_eq_false hlen, heq]
        cases finB s <;> rfl
theorem mixR_len (as ls ds as' ls' ds' : List Nat) (s : Nat) : (mixR as ls ds as' ls' ds' s).2.2.2.2.1.length = (mixR as ls ds as' ls' ds' s).1 ∧ (mixR as ls ds as' ls' ds' s).2.2.2.2.2.1.length = (mixR as ls ds as' ls' ds' s).2.1 ∧ (mixR as ls ds as' ls' ds' s).2.2.2.2.2.2.length = (mixR as ls ds as' ls' ds' s).2.2.1 ∧
    (mixR as ls ds as' ls' ds' s).1 ≤ 24 ∧ (mixR as ls ds as' ls' ds' s).2.1 ≤ 24 ∧ (mixR as ls ds as' ls' ds' s).2.2.1 ≤ 24 := by
  unfold mixR
  split
  · rename_i h
    obtain ⟨c1, c2, c3, c4⟩ := validProfB_len h
    split
    · split
      · split
        · split
          · exact ⟨rfl, mixL_length _ _ _, mixL_length _ _ _, c2, by show ls.length ≤ 24; omega, by show ds.length ≤ 24; omega⟩
          · simp
        · simp
      · simp
    · simp
  · simp
theorem laws_heldProfile_eq {k0 : Int} {l m n : Nat} (hk : 0 ≤ k0) (hk2 : k0 + (l : Int) + (m : Int) ≤ 1099511627776) (hl : l < 281474976710656) (hm : m < 281474976710656) (hn : n < 281474976710656) :
    z9n l (marks k0 l) m (marks (k0 + (l : Int)) m) n (marks (k0 + (l : Int) + (m : Int)) n) k0 = some (k0 + (l : Int) + (m : Int) + (n : Int)) := by
  obtain ⟨p1, q1⟩ := zfj (laws_heldFloat32S_eq (k0 := k0) (n := l) hk (by omega) hl)
  obtain ⟨p2, q2⟩ := zfj (laws_heldFloat32S_eq (k0 := k0 + (l : Int)) (n := m) (by omega) (by omega) hm)
  obtain ⟨p3, q3⟩ := zfj (laws_heldFloat32S_eq (k0 := k0 + (l : Int) + (m : Int)) (n := n) (by omega) hk2 hn)
  have l1 : ltI (k0 + (l : Int)) 0 = false := ltI_f (by omega)
  have l2 : ltI (k0 + (l : Int) + (m : Int)) 0 = false := ltI_f (by omega)
  have l3 : ltI (k0 + (l : Int) + (m : Int) + (n : Int)) 0 = false := ltI_f (by omega)
  unfold z9n z9p
  simp only [marks_pF, p1, q1, l1, p2, q2, l2, p3, q3, l3, grd_true, br_false]
theorem plain_FnExactMixProfiles {as ls ds as' ls' ds' : List Nat} {s : Nat} (ka : ∀ x ∈ as, canW .f32 x) (ma : as.length ≤ maxLen) (kl : ∀ x ∈ ls, canW .f32 x) (ml : ls.length ≤ maxLen) (kd : ∀ x ∈ ds, canW .f32 x) (md : ds.length ≤ maxLen)
    (ka' : ∀ x ∈ as', canW .f32 x) (ma' : as'.length ≤ maxLen) (kl' : ∀ x ∈ ls', canW .f32 x) (ml' : ls'.length ≤ maxLen) (kd' : ∀ x ∈ ds', canW .f32 x) (md' : ds'.length ≤ maxLen) (ks : canW .f32 s) :
    z7h as.length as ls.length ls ds.length ds as'.length as' ls'.length ls' ds'.length ds' s = some true := by
  obtain ⟨r1, h1, k1, k1'⟩ := laws_szProfile_eq (left := 1048576) ma ml md (by decide) (by decide)
  obtain ⟨p1, q1⟩ := zgx h1
  unfold z7h z7g
  simp only [z8a, z77, z1a, z17, z87, z19, z18, z86, z76, z89, z10, z11, z7s, z7w, z7r, z93, z1y, z1u, z1x, z1w, z1v, z1t, z98, z94, z90, z8x, z48, z49, z8t, z80, z4a, z7x, z6h, z6g, z7z, z6i, z8o, z8r, z91, z7y, z7v, z8m, z8w, z8z, z8p, z8n, z8u, z97, z7q, z96, z8y, z7t, z7u, z92, z8s, z8q, z95, pF_all, p1, q1, grd_true]
  by_cases c1 : r1 < 0
  · rw [ltI_t c1]; rfl
  · rw [ltI_f c1]
    have l1 := k1 (by omega)
    obtain ⟨r2, h2, k2, k2'⟩ := laws_szProfile_eq (left := r1) ma' ml' md' (by omega) (by omega)
    obtain ⟨p2, q2⟩ := zgx h2
    simp only [p2, q2, grd_true, br_false]
    by_cases c2 : r2 < 0
    · rw [ltI_t c2]; rfl
    · rw [ltI_f c2]
      have l2 := k2 (by omega)
      obtain ⟨p3, a3, b3, d3, e3, f3, g3⟩ := zgy (laws_toProfile_eq (as := as) (ls := ls) (ds := ds) (by omega) (by omega) (by omega))
      obtain ⟨p4, a4, b4, d4, e4, f4, g4⟩ := zgy (laws_toProfile_eq (as := as') (ls := ls') (ds := ds') (by omega) (by omega) (by omega))
      obtain ⟨p5, q5⟩ := zg8 (laws_eqProfile_refl (as := as) (ls := ls) (ds := ds) (by omega) (by omega) (by omega))
      obtain ⟨p6, q6⟩ := zg8 (laws_eqProfile_refl (as := as') (ls := ls') (ds := ds') (by omega) (by omega) (by omega))
      obtain ⟨i0, i1, i2, i3, i4, i5, i6, i7⟩ := zj2 (impl_MixProfiles_eq (as := as) (ls := ls) (ds := ds) (as' := as') (ls' := ls') (ds' := ds') s (by omega) (by omega) (by omega) (by omega) (by omega))
      obtain ⟨s0, s1, s2, s3, s4, s5, s6, s7⟩ := zj7 (spec_MixProfiles_eq (as := as) (ls := ls) (ds := ds) (as' := as') (ls' := ls') (ds' := ds') s)
      obtain ⟨y1, y2, y3, y4, y5, y6⟩ := mixR_len as ls ds as' ls' ds' s
      generalize mixR as ls ds as' ls' ds' s = R at *
      obtain ⟨m1, m2, m3, ok, us, vs, ws⟩ := R
      simp only at y1 y2 y3 y4 y5 y6
      subst y1 y2 y3
      obtain ⟨p7, q7⟩ := zg8 (laws_eqProfile_refl (as := us) (ls := vs) (ds := ws) (by omega) (by omega) (by omega))
      obtain ⟨A1, A2, _⟩ := ze5 rfl (mark_loop (L := z2j as.length) (k0 := 1) (ys := as) rfl (by omega) (by omega) (by omega) (fun n k i b => by rw [zcs]; rfl))
      obtain ⟨B1, B2, _⟩ := zd4 rfl (mark_loop (L := z1z ls.length) (k0 := 1 + (as.length : Int)) (ys := ls) rfl (by omega) (by omega) (by omega) (fun n k i b => by rw [zbp]; rfl))
      obtain ⟨C1, C2, _⟩ := zd5 rfl (mark_loop (L := z23 ds.length) (k0 := 1 + (as.length : Int) + (ls.length : Int)) (ys := ds) rfl (by omega) (by omega) (by omega) (fun n k i b => by rw [zbt]; rfl))
      obtain ⟨D1, D2, _⟩ := zd6 rfl (mark_loop (L := z22 as'.length) (k0 := 1 + (as.length : Int) + (ls.length : Int) + (ds.length : Int)) (ys := as') rfl (by omega) (by omega) (by omega) (fun n k i b => by rw [zbl]; rfl))
      obtain ⟨E1, E2, _⟩ := zd1 rfl (mark_loop (L := z26 ls'.length) (k0 := 1 + (as.length : Int) + (ls.length : Int) + (ds.length : Int) + (as'.length : Int)) (ys := ls') rfl (by omega) (by omega) (by omega) (fun n k i b => by rw [zbn]; rfl))
      obtain ⟨F1, F2, _⟩ := zd7 rfl (mark_loop (L := z25 ds'.length) (k0 := 1 + (as.length : Int) + (ls.length : Int) + (ds.length : Int) + (as'.length : Int) + (ls'.length : Int)) (ys := ds') rfl (by omega) (by omega) (by omega) (fun n k i b => by rw [zbu]; rfl))
      obtain ⟨G1, G2, _, _, G5⟩ := zcz rfl (mark_loop (L := z20 us.length) (k0 := 1) (ys := us) rfl (by omega) (by omega) (by omega) (fun n k i b => by rw [zbq]; rfl))
      obtain ⟨H1, H2, _, _, H5⟩ := zcx rfl (mark_loop (L := z21 vs.length) (k0 := 1 + (us.length : Int)) (ys := vs) rfl (by omega) (by omega) (by omega) (fun n k i b => by rw [zbm]; rfl))
      obtain ⟨I1, I2, _, _, I5⟩ := zcv rfl (mark_loop (L := z27 ws.length) (k0 := 1 + (us.length : Int) + (vs.length : Int)) (ys := ws) rfl (by omega) (by omega) (by omega) (fun n k i b => by rw [zbs]; rfl))
      obtain ⟨J1, J2⟩ := zj8 (laws_heldProfile_eq (k0 := 1) (l := us.length) (m := vs.length) (n := ws.length) (by omega) (by omega) (by omega) (by omega) (by omega))
      have z1 : ltI (1 + (as.length : Int) + (ls.length : Int) + (ds.length : Int) + (as'.length : Int) + (ls'.length : Int) + (ds'.length : Int)) 0 = false := ltI_f (by omega)
      have z2 : ltI (1 + (us.length : Int) + (vs.length : Int) + (ws.length : Int)) 0 = false := ltI_f (by omega)
      simp only [z8a, z77, z1a, z17, z87, z19, z18, z86, z76, z89, z10, z11, z7s, z7w, z7r, z93, z1y, z1u, z1x, z1w, z1v, z1t, z98, z94, z90, z8x, z48, z49, z8t, z80, z4a, z7x, z6h, z6g, z7z, z6i, z8o, z8r, z91, z7y, z7v, z8m, z8w, z8z, z8p, z8n, z8u, z97, z7q, z96, z8y, z7t, z7u, z92, z8s, z8q, z95, p3, a3, b3, d3, e3, f3, g3, p4, a4, b4, d4, e4, f4, g4, pF_all, p5, q5, p6, q6, i0, i1, i2, i3, i4, i5, i6, i7, s0, s1, s2, s3, s4, s5, s6, s7, p7, q7, A1, A2, B1, B2, C1, C2, D1, D2, E1, E2, F1, F2, G1, G2, G5, H1, H2, H5, I1, I2, I5, marks_pF, J1, J2, z1, z2, grd_true, br_false, bnot_true, beqB_self, neI_self]
end Go.Rf
