/-
  Plain laws.
-/
import Derived.Test.YtdmbbllcgpicbaaPlateProfileP
set_option linter.unusedVariables false
set_option linter.unusedSimpArgs false
set_option maxRecDepth 100000
set_option maxHeartbeats 4000000
namespace Go.Rf
open Go
def finB (x : Nat) : Bool := fcmp .eql .f32 (fop .sub .f32 x x) 0
def leastB (x : Nat) : Bool := finB x && fcmp .geq .f32 x 0
theorem floatBits_nan {op : BinOp} {k : FloatKind} {x y : Nat} (h : nanB k x = true ∨ nanB k y = true) : floatBits op k x y = none := by
  unfold floatBits
  rcases h with h | h
  · obtain ⟨s, f, e⟩ := nan_form h
    cases op <;> simp only [Ieee.Format.add, Ieee.Format.sub, Ieee.Format.mul, Ieee.Format.div, e, sum_nan_left, product_nan_left, quotient_nan_left, Option.map_none]
  · obtain ⟨s, f, e⟩ := nan_form h
    cases op <;> simp only [Ieee.Format.add, Ieee.Format.sub, Ieee.Format.mul, Ieee.Format.div, e, sum_nan_right, product_nan_right, quotient_nan_right, Option.map_none, Ieee.Datum.opposite]
theorem fop_nan {op : BinOp} {k : FloatKind} {x y : Nat} (h : nanB k x = true ∨ nanB k y = true) : fop op k x y = qn k := by
  unfold fop
  rw [floatBits_nan h]; rfl
theorem fin_num {x : Nat} (h : finB x = true) : nanB .f32 x = false := by
  cases hn : nanB .f32 x with
  | false => rfl
  | true =>
    unfold finB at h
    rw [fop_nan (.inl hn), (fcmp_nan .f32 (.inl (nanB_qn .f32))).1] at h
    cases h
theorem impl_IsFinite_eq (x : Nat) : z9i x = some (finB x) := rfl
theorem spec_l01Finite_eq (x : Nat) : z8z x = some (finB x) := rfl
theorem impl_isLeast_eq (x : Nat) : z8w x = some (leastB x) := by
  obtain ⟨h1, h2⟩ := zc5 (impl_IsFinite_eq x)
  unfold z8w z8v leastB
  rw [h1, h2]
  cases finB x <;> rfl
theorem spec_l02Least_eq (x : Nat) : z7x x = some (leastB x) := by
  obtain ⟨h1, h2⟩ := zcs (spec_l01Finite_eq x)
  unfold z7x z8a leastB
  rw [h1, h2]
  cases finB x <;> rfl
theorem impl_areLeast_1_eq (x : Nat) : z74 x = some (!leastB x) := by
  obtain ⟨h1, h2⟩ := zgk (impl_isLeast_eq x)
  unfold z74 z75
  rw [h1, h2]; rfl
theorem laws_sameFloat_refl (x : Nat) : z7f x x = some true := by
  unfold z7f z7d
  simp only [neq_self]
  cases hn : nanB .f64 x with
  | true => rfl
  | false =>
    have he : fcmp .eql .f64 x x = true := by rw [(fcmp_num .f64 hn hn).1]; simp
    simp only [br_if, Bool.false_eq_true, if_false, he, beqB, BEq.rfl]
    split <;> rfl
theorem slices_IndexFunc_areLeast {xs : List Nat} (hl : xs.length < 281474976710656) : ∃ r : Int, z47 xs.length xs = some r ∧ leI 0 r = !xs.all leastB := by
  unfold z47 z46
  rcases scan_all (L := z1k xs.length (Int.ofNat xs.length) xs) xs leastB (g := fun i => Int.ofNat i) (e := (Int.ofNat xs.length, false))
    (fun n i hi => by
      rw [z69]; unfold z3f; rw [ltN_t hi, okIx_t hi, ix1, addI1 (by omega)]
      simp only [gF]
      generalize xs.getD i 0 = x
      obtain ⟨h1, h2⟩ := zfd (impl_areLeast_1_eq x)
      simp only [br_if, grd_true, h1, h2]
      rcases Bool.eq_false_or_eq_true (leastB x) with h | h <;> simp [h])
    (fun n => by rw [z69]; unfold z3f; rw [ltN_f (Nat.le_refl _)]; rfl) hl with ⟨h1, h2⟩ | ⟨j, h2, h3, h4⟩
  · obtain ⟨g1, g2, _⟩ := za2 rfl h2
    exact ⟨Int.negSucc 0, by rw [g1, g2]; rfl, by rw [h1]; rfl⟩
  · obtain ⟨g1, g2, g3⟩ := za5 rfl h4
    exact ⟨Int.ofNat j, by rw [g1, g2, g3]; rfl, by rw [h3]; exact decide_eq_true (by simp)⟩
theorem slices_ContainsFunc_areLeast {xs : List Nat} (hl : xs.length < 281474976710656) : z40 xs.length xs = some (!xs.all leastB) := by
  obtain ⟨r, h1, h2⟩ := slices_IndexFunc_areLeast hl
  obtain ⟨g1, g2⟩ := zbb h1
  unfold z40 z3z
  rw [pF_all, g1, g2, h2]; rfl
theorem impl_areLeast_eq {xs : List Nat} (hl : xs.length < 281474976710656) : z87 xs.length xs = some (xs.all leastB) := by
  obtain ⟨g1, g2⟩ := zam (slices_ContainsFunc_areLeast hl)
  unfold z87 z88
  rw [pF_all, g1, g2]
  simp [grd_true, bnot]
def fromToB (x low high : Nat) : Bool := fcmp .geq .f32 x low && fcmp .leq .f32 x high
theorem impl_isFromTo_eq (x low high : Nat) : z84 x low high = some (fromToB x low high) := by
  unfold z84 z81 fromToB
  rcases Bool.eq_false_or_eq_true (fcmp .geq .f32 x low) with h | h <;> simp [h, br_if]
theorem laws_eqFloat32S_refl {xs : List Nat} (hl : xs.length < 281474976710656) : z6z xs.length xs xs.length xs = some true := by
  have hn : neI (Int.ofNat xs.length) (Int.ofNat xs.length) = false := by simp [neI]
  unfold z6z z71
  rw [hn]
  rcases scan_all (L := z48 xs.length xs.length xs xs) xs (fun _ => true) (g := fun i => ()) (e := (Int.ofNat xs.length, false))
    (fun n i hi => by
      obtain ⟨h1, h2⟩ := zft (laws_sameFloat_refl (fcvV FloatKind.f32 FloatKind.f64 (gF xs i)))
      rw [zbk]; unfold z53; rw [ltN_t hi, okIx_t hi, ix1, addI1 (by omega), h1, h2]
      rfl)
    (fun n => by rw [zbk]; unfold z53; rw [ltN_f (Nat.le_refl _)]; rfl) hl with ⟨h1, h2⟩ | ⟨j, h2, h3, h4⟩
  · obtain ⟨g1, g2, _⟩ := zdw rfl h2
    rw [g1, g2]; rfl
  · simp at h3
theorem beqB_self (b : Bool) : beqB b b = true := by cases b <;> rfl
theorem neI_self (i : Int) : neI i i = false := by simp [neI]
theorem bnot_true : bnot true = false := rfl
theorem ltN (a b : Nat) : ltI (Int.ofNat a) (Int.ofNat b) = decide (a < b) := by by_cases h : a < b <;> simp [ltI, h] <;> omega
theorem get_mem {xs : List Nat} {i : Nat} (h : i < xs.length) : xs.getD i 0 ∈ xs := by
  rw [List.getD_eq_getElem?_getD, List.getElem?_eq_getElem h]; exact List.getElem_mem _
def inB (n low high : Int) : Bool := decide (low ≤ n) && decide (n ≤ high)
theorem spec_l00In_eq (n low high : Int) : zan n low high = some (inB n low high) := by
  unfold zan zae inB leI
  cases decide (low ≤ n) <;> rfl
theorem impl_within_eq (n low high : Int) : z9f n low high = some (inB n low high) := by
  unfold z9f z9g inB leI
  cases decide (low ≤ n) <;> rfl
theorem inB_le {n l h : Int} (e : inB n l h = true) : l ≤ n ∧ n ≤ h := by
  unfold inB at e
  rw [Bool.and_eq_true] at e
  exact ⟨of_decide_eq_true e.1, of_decide_eq_true e.2⟩
def marks (k0 : Int) (n : Nat) : List Nat := (List.range n).map fun (j : Nat) => fOI .f32 (k0 + (j : Int))
theorem marks_length (k0 : Int) (n : Nat) : (marks k0 n).length = n := by simp [marks]
theorem marks_get {k0 : Int} {n i : Nat} (h : i < n) : (marks k0 n).getD i 0 = fOI .f32 (k0 + (i : Int)) := by
  simp [marks, List.getD_eq_getElem?_getD, h]
theorem fOI_nan (k : FloatKind) (n : Int) : nanB k (fOI k n) = false := by
  rw [show fOI k n = floatOfInt k n from rfl, fOI_eq]
  exact nanB_word k _ (rnd_inf _ _ _)
theorem addI_in {a b : Int} (h1 : -9223372036854775808 ≤ a + b) (h2 : a + b ≤ 9223372036854775807) : addI .i64 a b = a + b := wrap64 h1 h2
theorem mark_loop {L : Nat → Int → Int → List Nat → Option (Int × Int × Bool × List Nat)} {len : Nat} {k0 : Int} {ys : List Nat} (hy : ys.length = len) (hk : 0 ≤ k0) (hk2 : k0 ≤ 1099511627776) (hl : len < 281474976710656)
    (hs : ∀ n k i b, L (n + 1) k i b = br (ltI i (Int.ofNat len)) (grd (okIx i len) (L n (addI .i64 k 1) (addI .i64 i 1) (sF b (ixO 0 i 1) (fOI .f32 k)))) (some (k, i, ltI i (Int.ofNat len), b))) :
    L big k0 0 ys = some (k0 + (len : Int), Int.ofNat len, false, marks k0 len) := by
  have hf := folds (L := fun n i s => L n (k0 + i) i s) (len := len) (fun i s => s.set i ((marks k0 len).getD i 0)) (e := fun s => (k0 + (len : Int), Int.ofNat len, false, s))
    (fun n i s hi => by
      show L _ _ _ _ = L _ _ _ _
      rw [hs, ltN_t hi, okIx_t hi, ix1, addI1 (by omega), addI_in (by simp; omega) (by simp; omega), marks_get hi]
      have : k0 + Int.ofNat i + 1 = k0 + Int.ofNat (i + 1) := by simp; omega
      rw [this]; rfl)
    (fun n s => by show L _ _ _ _ = _; rw [hs, ltN_f (Nat.le_refl _)]; rfl) len 0 big ys (by omega) (big_gt hl)
  have hm := copy_fold (marks k0 len) len 0 ys (by simp [marks_length]) (by rw [marks_length, hy])
  rw [hm] at hf
  simpa using hf
theorem laws_heldFloat32S_eq {k0 : Int} {n : Nat} (hk : 0 ≤ k0) (hk2 : k0 ≤ 1099511627776) (hl : n < 281474976710656) : z6h n (marks k0 n) k0 = some (k0 + (n : Int)) := by
  unfold z6h z6f
  rcases scan (L := fun m i => z3i n (marks k0 n) m (k0 + i) i) (len := n) (fun _ => true) (g := fun _ => ()) (e := (k0 + (n : Int), Int.ofNat n, false))
    (fun m i hi => by
      show z3i _ _ _ _ _ = _
      rw [zb0]; unfold z4s
      rw [ltN_t hi, okIx_t hi, ix1, addI1 (by omega), addI_in (by simp; omega) (by simp; omega)]
      have e : fcmp .neq .f32 (gF (marks k0 n) i) (fOI .f32 (k0 + Int.ofNat i)) = false := by
        show fcmp .neq .f32 ((marks k0 n).getD i 0) _ = false
        rw [marks_get hi]
        show fcmp .neq .f32 (fOI .f32 (k0 + Int.ofNat i)) (fOI .f32 (k0 + Int.ofNat i)) = false
        rw [neq_self, fOI_nan]
      have : k0 + Int.ofNat i + 1 = k0 + Int.ofNat (i + 1) := by simp; omega
      rw [e, this]; rfl)
    (fun m => by show z3i _ _ _ _ _ = _; rw [zb0]; unfold z4s; rw [ltN_f (Nat.le_refl _)]; rfl) n 0 big (by omega) (big_gt hl) with ⟨k1, k2⟩ | ⟨j, k1, k2, k3, k4⟩
  · have k2 : z3i n (marks k0 n) big k0 0 = some (Sum.inr (k0 + (n : Int), Int.ofNat n, false)) := by simpa using k2
    obtain ⟨g1, g2, g3, _⟩ := zd1 rfl k2
    rw [g1, g2, g3]; rfl
  · cases k3
theorem okA2_1 {n : Nat} {b : List Nat} (x : Nat) (hb : b.length = n) (hn : n < 1099511627776) : okA2 n 1 4 (nF (pF [x] 0 (muN 1 1))) (nF b) 1 = true :=
  decide_eq_true ⟨by omega, by omega, by simp [nF, pF, muN], by simp [nF, hb]⟩
theorem runs {ρ : Type} {L : Nat → Int → Option ρ} {len : Nat} {e : ρ} (hs : ∀ n i, i < len → L (n + 1) (Int.ofNat i) = L n (Int.ofNat (i + 1))) (he : ∀ n, L (n + 1) (Int.ofNat len) = some e) (hl : len < 281474976710656) : L big 0 = some e := by
  have := folds (L := fun n i (_ : Unit) => L n i) (len := len) (fun _ _ => ()) (e := fun _ => e) (fun n i _ hi => hs n i hi) (fun n _ => he n) len 0 big () (by omega) (big_gt hl)
  exact this
theorem impl_areFinite_1_eq (x : Nat) : z6o x = some (!finB x) := by
  obtain ⟨h1, h2⟩ := zc5 (impl_IsFinite_eq x)
  unfold z6o z6r
  rw [h1, h2]; rfl
theorem slices_IndexFunc_areFinite {xs : List Nat} (hl : xs.length < 281474976710656) : ∃ r : Int, z43 xs.length xs = some r ∧ leI 0 r = !xs.all finB := by
  unfold z43 z44
  rcases scan_all (L := z1d xs.length (Int.ofNat xs.length) xs) xs finB (g := fun i => Int.ofNat i) (e := (Int.ofNat xs.length, false))
    (fun n i hi => by
      rw [z67]; unfold z3c; rw [ltN_t hi, okIx_t hi, ix1, addI1 (by omega)]
      simp only [gF]
      generalize xs.getD i 0 = x
      obtain ⟨h1, h2⟩ := zev (impl_areFinite_1_eq x)
      simp only [br_if, grd_true, h1, h2]
      rcases Bool.eq_false_or_eq_true (finB x) with h | h <;> simp [h])
    (fun n => by rw [z67]; unfold z3c; rw [ltN_f (Nat.le_refl _)]; rfl) hl with ⟨h1, h2⟩ | ⟨j, h2, h3, h4⟩
  · obtain ⟨g1, g2, _⟩ := z9y rfl h2
    exact ⟨Int.negSucc 0, by rw [g1, g2]; rfl, by rw [h1]; rfl⟩
  · obtain ⟨g1, g2, g3⟩ := z9z rfl h4
    exact ⟨Int.ofNat j, by rw [g1, g2, g3]; rfl, by rw [h3]; exact decide_eq_true (by simp)⟩
theorem slices_ContainsFunc_areFinite {xs : List Nat} (hl : xs.length < 281474976710656) : z3w xs.length xs = some (!xs.all finB) := by
  obtain ⟨r, h1, h2⟩ := slices_IndexFunc_areFinite hl
  obtain ⟨g1, g2⟩ := zb4 h1
  unfold z3w z3x
  rw [pF_all, g1, g2, h2]; rfl
theorem impl_areFinite_eq {xs : List Nat} (hl : xs.length < 281474976710656) : z7b xs.length xs = some (xs.all finB) := by
  obtain ⟨g1, g2⟩ := za7 (slices_ContainsFunc_areFinite hl)
  unfold z7b z7g
  rw [pF_all, g1, g2]
  simp [grd_true, bnot]
theorem finB_eq (x : Nat) : finB x = finW .f32 x := by
  cases hn : nanB .f32 x with
  | true =>
    have h1 : finB x = false := by
      cases h : finB x with
      | false => rfl
      | true => rw [fin_num h] at hn; cases hn
    have h2 : finW .f32 x = false := by
      cases h : finW .f32 x with
      | false => rfl
      | true => rw [finW_nan h] at hn; cases hn
    rw [h1, h2]
  | false =>
    cases hf : finW .f32 x with
    | true =>
      unfold finB
      rw [sub_word hf hf]
      have h0 : (vl .f32 x - vl .f32 x).natAbs = 0 := by simp
      rw [h0, rnd_zero]
      generalize sgn0 _ _ _ = s
      cases s <;> decide +kernel
    | false =>
      have hr := inf_read hn hf
      unfold finB
      have e : fop .sub .f32 x x = qn .f32 := by
        unfold fop floatBits Ieee.Format.sub
        simp only [hr]
        cases nn .f32 x <;> simp [Ieee.Datum.opposite, Ieee.Datum.sum]
      rw [e]
      decide +kernel
theorem not_finW_nan {k : FloatKind} {x : Nat} (h : nanB k x = true) : finW k x = false := by
  cases hf : finW k x with
  | false => rfl
  | true => rw [finW_nan hf] at h; cases h
theorem qn_fin (k : FloatKind) : finW k (qn k) = false := not_finW_nan (nanB_qn k)
theorem laws_eqProfile_refl {as ls ds : List Nat} (ha : as.length < 281474976710656) (hl : ls.length < 281474976710656) (hd : ds.length < 281474976710656) : z7e as.length as ls.length ls ds.length ds as.length as ls.length ls ds.length ds = some true := by
  obtain ⟨p1, q1⟩ := zbn (laws_eqFloat32S_refl ha)
  obtain ⟨p2, q2⟩ := zbn (laws_eqFloat32S_refl hl)
  obtain ⟨p3, q3⟩ := zbn (laws_eqFloat32S_refl hd)
  unfold z7e z7l
  simp only [pF_all, p1, q1, p2, q2, p3, q3, grd_true]
  rfl
def knotB (as : List Nat) (j : Nat) : Bool := fromToB (as.getD j 0) 3204448256 1056964608 && (decide (j = 0) || !fcmp .leq .f32 (as.getD j 0) (as.getD (j - 1) 0))
def profB (as ls ds : List Nat) (j : Nat) : Bool := knotB as j && (finB (ls.getD j 0) && leastB (ds.getD j 0))
def validProfB (as ls ds : List Nat) : Bool := decide (2 ≤ as.length) && (decide (as.length ≤ 24) && (decide (ls.length = as.length) && (decide (ds.length = as.length) && (List.range as.length).all (profB as ls ds))))
theorem range_all {n : Nat} {p : Nat → Bool} : (List.range n).all p = true ↔ ∀ j, j < n → p j = true := by simp [List.all_eq_true]
theorem geq_leq {x y : Nat} : fcmp .geq .f32 x y = fcmp .leq .f32 y x := by
  cases hx : nanB .f32 x with
  | true => rw [(fcmp_nan .f32 (.inl hx)).2.2.2.2.2, (fcmp_nan .f32 (.inr hx)).2.2.2.1]
  | false =>
    cases hy : nanB .f32 y with
    | true => rw [(fcmp_nan .f32 (.inr hy)).2.2.2.2.2, (fcmp_nan .f32 (.inl hy)).2.2.2.1]
    | false => rw [(fcmp_num .f32 hx hy).2.2.2.2.2, (fcmp_num .f32 hy hx).2.2.2.1]
theorem ltN0 (i : Nat) : ltI 0 (Int.ofNat i) = !decide (i = 0) := by
  rw [show ltI 0 (Int.ofNat i) = decide (0 < i) from ltN 0 i]
  by_cases h : i = 0
  · rw [decide_eq_true h, decide_eq_false (by omega)]; rfl
  · rw [decide_eq_false h, decide_eq_true (by omega)]; rfl
theorem subN1 {i : Nat} (h : i ≠ 0) (h2 : i < 4611686018427387904) : subI .i64 (Int.ofNat i) 1 = Int.ofNat (i - 1) := by
  have : subI .i64 (Int.ofNat i) 1 = (i : Int) - 1 := wrap64 (by simp; omega) (by simp; omega)
  rw [this]; simp; omega
theorem impl_ValidProfile_loop {as : List Nat} (hl : as.length ≤ 24) :
    z5l as.length (Int.ofNat as.length) as as.length 0 = true ∧ z5b as.length (Int.ofNat as.length) as as.length 0 = !(List.range as.length).all (knotB as) := by
  rcases scan (L := z3s as.length (Int.ofNat as.length) as as.length) (len := as.length) (knotB as) (g := fun _ => ()) (e := (Int.ofNat as.length, false))
    (fun n i hi => by
      rw [zaz]; unfold z4r
      obtain ⟨p1, q1⟩ := zfz (impl_isFromTo_eq (as.getD i 0) 3204448256 1056964608)
      rw [ltN_t hi, okIx_t hi, ix1, addI1 (by omega), ltN0]
      simp only [gF, p1, q1, grd_true, br_true]
      unfold knotB
      by_cases h0 : i = 0
      · subst h0
        cases fromToB (as.getD 0 0) 3204448256 1056964608 <;> rfl
      · rw [subN1 h0 (by omega), okIx_t (show i - 1 < as.length by omega), ix1, geq_leq, decide_eq_false h0]
        cases fromToB (as.getD i 0) 3204448256 1056964608
        · rfl
        · cases fcmp .leq .f32 (as.getD i 0) (as.getD (i - 1) 0) <;> rfl)
    (fun n => by rw [zaz]; unfold z4r; rw [ltN_f (Nat.le_refl _)]; rfl) as.length 0 big (by omega) (big_gt (by omega)) with ⟨h1, h2⟩ | ⟨j, _, h2, h3, h4⟩
  · obtain ⟨g1, g2, _⟩ := zd2 rfl h2
    rw [range_all.2 fun j hj => h1 j (Nat.zero_le _) hj]
    exact ⟨g1, g2⟩
  · obtain ⟨g1, g2⟩ := zd4 rfl h4
    have : (List.range as.length).all (knotB as) = false := by
      cases hh : (List.range as.length).all (knotB as) with
      | false => rfl
      | true => rw [range_all.1 hh j h2] at h3; cases h3
    rw [this]
    exact ⟨g1, g2⟩
theorem all_getD {xs : List Nat} {p : Nat → Bool} : xs.all p = true ↔ ∀ j, j < xs.length → p (xs.getD j 0) = true := by
  rw [List.all_eq_true]
  constructor
  · intro h j hj; exact h _ (get_mem hj)
  · intro h x hx
    obtain ⟨i, hi, rfl⟩ := List.getElem_of_mem hx
    have := h i hi
    simpa [List.getD_eq_getElem?_getD, hi] using this
theorem ltN2 (n : Nat) : ltI (Int.ofNat n) 2 = !decide (2 ≤ n) := by
  rw [show ltI (Int.ofNat n) 2 = decide (n < 2) from ltN n 2]
  by_cases h : 2 ≤ n
  · rw [decide_eq_true h, decide_eq_false (by omega)]; rfl
  · rw [decide_eq_false h, decide_eq_true (by omega)]; rfl
theorem gtN (c n : Nat) : ltI (Int.ofNat c) (Int.ofNat n) = !decide (n ≤ c) := by
  rw [ltN]
  by_cases h : n ≤ c
  · rw [decide_eq_true h, decide_eq_false (by omega)]; rfl
  · rw [decide_eq_false h, decide_eq_true (by omega)]; rfl
theorem neN (m n : Nat) : neI (Int.ofNat m) (Int.ofNat n) = !decide (m = n) := by
  unfold neI
  by_cases h : m = n
  · subst h; simp
  · rw [decide_eq_false h]; simp; omega
theorem impl_ValidProfile_eq {as ls ds : List Nat} (hl : ls.length < 281474976710656) (hd : ds.length < 281474976710656) : z6c as.length as ls.length ls ds.length ds = some (validProfB as ls ds) := by
  obtain ⟨p1, q1⟩ := zfk (impl_areFinite_eq hl)
  obtain ⟨p2, q2⟩ := zg1 (impl_areLeast_eq hd)
  unfold z6c z6e validProfB
  rw [ltN2, show ltI 24 (Int.ofNat as.length) = !decide (as.length ≤ 24) from gtN 24 _, neN, neN]
  simp only [pF_all, p1, q1, p2, q2, grd_true]
  by_cases c1 : 2 ≤ as.length
  · by_cases c2 : as.length ≤ 24
    · by_cases c3 : ls.length = as.length
      · by_cases c4 : ds.length = as.length
        · obtain ⟨g1, g2⟩ := impl_ValidProfile_loop c2
          rw [decide_eq_true c1, decide_eq_true c2, decide_eq_true c3, decide_eq_true c4, g1, g2]
          have key : (List.range as.length).all (profB as ls ds) = (ls.all finB && (ds.all leastB && (List.range as.length).all (knotB as))) := by
            rw [Bool.eq_iff_iff, Bool.and_eq_true, Bool.and_eq_true, range_all, range_all, all_getD, all_getD, c3, c4]
            constructor
            · intro h
              refine ⟨fun j hj => ?_, fun j hj => ?_, fun j hj => ?_⟩
              all_goals have := h j hj; unfold profB at this; simp only [Bool.and_eq_true] at this
              · exact this.2.1
              · exact this.2.2
              · exact this.1
            · rintro ⟨h1, h2, h3⟩ j hj
              unfold profB
              rw [h1 j hj, h2 j hj, h3 j hj]; rfl
          rw [key]
          cases ls.all finB <;> cases ds.all leastB <;> cases (List.range as.length).all (knotB as) <;> rfl
        · rw [decide_eq_false c4]
          rw [decide_eq_true c1, decide_eq_true c2, decide_eq_true c3]; rfl
      · rw [decide_eq_false c3]
        rw [decide_eq_true c1, decide_eq_true c2]; rfl
    · rw [decide_eq_false c2]
      rw [decide_eq_true c1]; rfl
  · rw [decide_eq_false c1]; rfl
theorem spec_l02Is_eq {as ls ds : List Nat} : zar as.length as ls.length ls ds.length ds = some (validProfB as ls ds) := by
  unfold zar zak validProfB
  rw [ltN2, show ltI 24 (Int.ofNat as.length) = !decide (as.length ≤ 24) from gtN 24 _, neN, neN]
  by_cases c1 : 2 ≤ as.length
  · by_cases c2 : as.length ≤ 24
    · by_cases c3 : ls.length = as.length
      · by_cases c4 : ds.length = as.length
        · rw [decide_eq_true c1, decide_eq_true c2, decide_eq_true c3, decide_eq_true c4]
          rcases scan (L := z4z (Int.ofNat as.length) as ls ds as.length ls.length ds.length) (len := as.length) (profB as ls ds) (g := fun _ => ()) (e := (Int.ofNat as.length, false))
            (fun n i hi => by
              rw [zc9]; unfold z61
              obtain ⟨p1, q1⟩ := zcs (spec_l01Finite_eq (ls.getD i 0))
              obtain ⟨p2, q2⟩ := zgb (spec_l02Least_eq (ds.getD i 0))
              rw [ltN_t hi, okIx_t hi, ix1, addI1 (by omega), ltN0, okIx_t (show i < ls.length by omega), okIx_t (show i < ds.length by omega)]
              simp only [gF, p1, q1, p2, q2, grd_true, br_true]
              unfold profB knotB fromToB
              by_cases h0 : i = 0
              · subst h0
                cases fcmp .geq .f32 (as.getD 0 0) 3204448256 <;> cases fcmp .leq .f32 (as.getD 0 0) 1056964608 <;> cases finB (ls.getD 0 0) <;> cases leastB (ds.getD 0 0) <;> rfl
              · rw [subN1 h0 (by omega), okIx_t (show i - 1 < as.length by omega), ix1, decide_eq_false h0]
                cases fcmp .geq .f32 (as.getD i 0) 3204448256 <;> cases fcmp .leq .f32 (as.getD i 0) 1056964608 <;> cases fcmp .leq .f32 (as.getD i 0) (as.getD (i - 1) 0) <;> cases finB (ls.getD i 0) <;> cases leastB (ds.getD i 0) <;> rfl)
            (fun n => by rw [zc9]; unfold z61; rw [ltN_f (Nat.le_refl _)]; rfl) as.length 0 big (by omega) (big_gt (by omega)) with ⟨h1, h2⟩ | ⟨j, _, h2, h3, h4⟩
          · obtain ⟨g1, g2, _⟩ := zfn rfl h2
            rw [range_all.2 fun j hj => h1 j (Nat.zero_le _) hj]
            show grd (z6a (Int.ofNat as.length) as ls ds as.length ls.length ds.length (Int.ofNat 0)) (br (z62 (Int.ofNat as.length) as ls ds as.length ls.length ds.length (Int.ofNat 0)) _ _) = _
            rw [g1, g2]; rfl
          · obtain ⟨g1, g2⟩ := zfl rfl h4
            have : (List.range as.length).all (profB as ls ds) = false := by
              cases hh : (List.range as.length).all (profB as ls ds) with
              | false => rfl
              | true => rw [range_all.1 hh j h2] at h3; cases h3
            rw [this]
            show grd (z6a (Int.ofNat as.length) as ls ds as.length ls.length ds.length (Int.ofNat 0)) (br (z62 (Int.ofNat as.length) as ls ds as.length ls.length ds.length (Int.ofNat 0)) _ _) = _
            rw [g1, g2]; rfl
        · rw [decide_eq_false c4]
          rw [decide_eq_true c1, decide_eq_true c2, decide_eq_true c3]; rfl
      · rw [decide_eq_false c3]
        rw [decide_eq_true c1, decide_eq_true c2]; rfl
    · rw [decide_eq_false c2]
      rw [decide_eq_true c1]; rfl
  · rw [decide_eq_false c1]; rfl
theorem marks_pF (k0 : Int) (m : Nat) : pF (marks k0 m) 0 (muN m 1) = marks k0 m := by
  have := pF_all (marks k0 m); rw [marks_length] at this; exact this
theorem laws_heldProfile_eq {k0 : Int} {l m n : Nat} (hk : 0 ≤ k0) (hk2 : k0 + (l : Int) + (m : Int) ≤ 1099511627776) (hl : l < 281474976710656) (hm : m < 281474976710656) (hn : n < 281474976710656) :
    z6q l (marks k0 l) m (marks (k0 + (l : Int)) m) n (marks (k0 + (l : Int) + (m : Int)) n) k0 = some (k0 + (l : Int) + (m : Int) + (n : Int)) := by
  obtain ⟨p1, q1⟩ := zb6 (laws_heldFloat32S_eq (k0 := k0) (n := l) hk (by omega) hl)
  obtain ⟨p2, q2⟩ := zb6 (laws_heldFloat32S_eq (k0 := k0 + (l : Int)) (n := m) (by omega) (by omega) hm)
  obtain ⟨p3, q3⟩ := zb6 (laws_heldFloat32S_eq (k0 := k0 + (l : Int) + (m : Int)) (n := n) (by omega) hk2 hn)
  have l1 : ltI (k0 + (l : Int)) 0 = false := ltI_f (by omega)
  have l2 : ltI (k0 + (l : Int) + (m : Int)) 0 = false := ltI_f (by omega)
  have l3 : ltI (k0 + (l : Int) + (m : Int) + (n : Int)) 0 = false := ltI_f (by omega)
  unfold z6q z6m
  simp only [marks_pF, p1, q1, l1, p2, q2, l2, p3, q3, l3, grd_true, br_false]
theorem subself_neq (k : FloatKind) (x : Nat) : fcmp .neq k (fop .sub k x x) 0 = !finW k x := by
  cases hn : nanB k x with
  | true =>
    rw [fop_nan (.inl hn), (fcmp_nan k (.inl (nanB_qn k))).2.1, not_finW_nan hn]; rfl
  | false =>
    cases hf : finW k x with
    | true =>
      rw [sub_word hf hf]
      have h0 : (vl k x - vl k x).natAbs = 0 := by simp
      rw [h0, rnd_zero]
      generalize sgn0 _ _ _ = s
      cases k <;> cases s <;> decide +kernel
    | false =>
      have hr := inf_read hn hf
      have e : fop .sub k x x = qn k := by
        unfold fop floatBits Ieee.Format.sub
        simp only [hr]
        cases nn k x <;> simp [Ieee.Datum.opposite, Ieee.Datum.sum]
      rw [e, (fcmp_nan k (.inl (nanB_qn k))).2.1]; rfl
def rnd1 (u D p : Nat) : Nat := fop .sub .f64 4607182418800017408 (fop .quo .f64 (fop .mul .f64 u p) D)
/-- 272, 210, 156, 110, 72, 42, 20, 6 -/
def poly (u : Nat) : Nat := rnd1 u 4618441417868443648 (rnd1 u 4626322717216342016 (rnd1 u 4631107791820423168 (rnd1 u 4634766966517661696 (rnd1 u 4637440978796412928 (rnd1 u 4639692778610098176 (rnd1 u 4641592734702895104 (rnd1 u 4643492690795692032 4607182418800017408)))))))
theorem impl_sine_loop (u : Nat) : z6n u 4607182418800017408 4620693217682128896 = true ∧ z5z u 4607182418800017408 4620693217682128896 = poly u := by
  obtain ⟨n, hn⟩ : ∃ n, big = n + 9 := ⟨big - 9, by have := big_gt (k := 9) (by decide); omega⟩
  have step : ∀ m p k k' D, fcmp .geq .f64 k 4607182418800017408 = true → fop .sub .f64 k 4607182418800017408 = k' → fop .mul .f64 (fop .mul .f64 4611686018427387904 k) (fop .add .f64 (fop .mul .f64 4611686018427387904 k) 4607182418800017408) = D →
      z4y u (m + 1) p k = z4y u m (rnd1 u D p) k' := by
    intro m p k k' D h1 h2 h3
    rw [zcf]; unfold z68
    rw [h1, h2, h3]; rfl
  have hf : z4y u big 4607182418800017408 4620693217682128896 = some (poly u, 0, false) := by
    rw [hn, step (n + 8) _ 4620693217682128896 4619567317775286272 4643492690795692032 (by decide +kernel) (by decide +kernel) (by decide +kernel),
      step (n + 7) _ 4619567317775286272 4618441417868443648 4641592734702895104 (by decide +kernel) (by decide +kernel) (by decide +kernel),
      step (n + 6) _ 4618441417868443648 4617315517961601024 4639692778610098176 (by decide +kernel) (by decide +kernel) (by decide +kernel),
      step (n + 5) _ 4617315517961601024 4616189618054758400 4637440978796412928 (by decide +kernel) (by decide +kernel) (by decide +kernel),
      step (n + 4) _ 4616189618054758400 4613937818241073152 4634766966517661696 (by decide +kernel) (by decide +kernel) (by decide +kernel),
      step (n + 3) _ 4613937818241073152 4611686018427387904 4631107791820423168 (by decide +kernel) (by decide +kernel) (by decide +kernel),
      step (n + 2) _ 4611686018427387904 4607182418800017408 4626322717216342016 (by decide +kernel) (by decide +kernel) (by decide +kernel),
      step (n + 1) _ 4607182418800017408 0 4618441417868443648 (by decide +kernel) (by decide +kernel) (by decide +kernel)]
    rw [zcf]; unfold z68
    rw [show fcmp .geq .f64 0 4607182418800017408 = false from by decide +kernel]; rfl
  obtain ⟨g1, g2, _⟩ := zg7 rfl hf
  exact ⟨g1, g2⟩
theorem spec_sine_loop (u : Nat) : z42 u 4607182418800017408 8 = true ∧ z2h u 4607182418800017408 8 = poly u := by
  obtain ⟨n, hn⟩ : ∃ n, big = n + 9 := ⟨big - 9, by have := big_gt (k := 9) (by decide); omega⟩
  have step : ∀ m p (k k' : Int) D, leI 1 k = true → subI .i64 k 1 = k' → fOI .f64 (mulI .i64 (mulI .i64 2 k) (addI .i64 (mulI .i64 2 k) 1)) = D →
      z3q u (m + 1) p k = z3q u m (rnd1 u D p) k' := by
    intro m p k k' D h1 h2 h3
    rw [zay]; unfold z4t
    rw [h1, h2, h3]; rfl
  have hf : z3q u big 4607182418800017408 8 = some (poly u, 0, false) := by
    rw [hn, step (n + 8) _ 8 7 4643492690795692032 (by decide +kernel) (by decide +kernel) (by decide +kernel),
      step (n + 7) _ 7 6 4641592734702895104 (by decide +kernel) (by decide +kernel) (by decide +kernel),
      step (n + 6) _ 6 5 4639692778610098176 (by decide +kernel) (by decide +kernel) (by decide +kernel),
      step (n + 5) _ 5 4 4637440978796412928 (by decide +kernel) (by decide +kernel) (by decide +kernel),
      step (n + 4) _ 4 3 4634766966517661696 (by decide +kernel) (by decide +kernel) (by decide +kernel),
      step (n + 3) _ 3 2 4631107791820423168 (by decide +kernel) (by decide +kernel) (by decide +kernel),
      step (n + 2) _ 2 1 4626322717216342016 (by decide +kernel) (by decide +kernel) (by decide +kernel),
      step (n + 1) _ 1 0 4618441417868443648 (by decide +kernel) (by decide +kernel) (by decide +kernel)]
    rw [zay]; unfold z4t
    rw [show leI 1 0 = false from by decide +kernel]; rfl
  obtain ⟨g1, g2, _⟩ := zd9 rfl hf
  exact ⟨g1, g2⟩
def halfS (r : Nat) : Nat :=
  if fcmp .gtr .f64 r 4598175219545276416 = true then fop .mul .f64 (fop .mul .f64 (fop .sub .f64 4602678819172646912 r) 4618760256179416344) (poly (fop .mul .f64 (fop .mul .f64 (fop .sub .f64 4602678819172646912 r) 4618760256179416344) (fop .mul .f64 (fop .sub .f64 4602678819172646912 r) 4618760256179416344)))
  else fop .mul .f64 (fop .mul .f64 r 4618760256179416344) (poly (fop .mul .f64 (fop .mul .f64 r 4618760256179416344) (fop .mul .f64 r 4618760256179416344)))
def sineA (q : Nat) : Nat := if fcmp .geq .f64 q 4602678819172646912 = true then fneg .f64 (halfS (fop .sub .f64 q 4602678819172646912)) else halfS q
noncomputable def zz (x : Nat) : Nat := fop .sub .f64 x (fOI .f64 (f2iV .f64 x .i64))
noncomputable def qq (x : Nat) : Nat := if fcmp .lss .f64 (zz x) 0 = true then fop .add .f64 (zz x) 4607182418800017408 else zz x
noncomputable def sineV (x : Nat) : Nat := sineA (qq x)
def smallB (x : Nat) : Bool := decide (rg FloatKind.f64.format x < 4841369599423283200)
theorem small_fin {x : Nat} (h : smallB x = true) : finW .f64 x = true := finW_of (Nat.le_of_lt (of_decide_eq_true h)) (by decide +kernel)
theorem small_whole {x : Nat} (h : smallB x = true) : mg .f64 x / 2 ^ 1074 ≤ 4503599627370496 := by
  have h1 : mg .f64 x ≤ rungV FloatKind.f64.format 4841369599423283200 := mg_le (Nat.le_of_lt (of_decide_eq_true h))
  have h2 : rungV FloatKind.f64.format 4841369599423283200 ≤ 4503599627370496 * 2 ^ 1074 := by decide +kernel
  exact div_bound _ _ 1074 (Nat.le_trans h1 h2)
theorem small_int {x : Nat} (h : smallB x = true) : f2iB .f64 x .i64 = true ∧ f2iV .f64 x .i64 = sg (nn .f64 x) (mg .f64 x / 2 ^ 1074) := by
  have hw := small_whole h
  have hi := integral_zero (small_fin h) (N := 1074) (by decide +kernel)
  generalize mg .f64 x / 2 ^ 1074 = w at hw hi ⊢
  have hi : (FloatKind.f64.decode x).integral .zero = .number (nn .f64 x) w 0 := hi
  have e : floatToIntVal .f64 x .i64 = some (sg (nn .f64 x) w) := by
    unfold floatToIntVal Ieee.Datum.toInt
    rw [hi]
    simp only [signed_sg, Nat.pow_zero, Nat.mul_one]
    have hmin : IntKind.i64.min = -9223372036854775808 := by decide
    have hmax : IntKind.i64.max = 9223372036854775807 := by decide
    rw [hmin, hmax, if_pos]
    unfold sg
    by_cases hs : nn .f64 x = true
    · rw [if_pos hs]; omega
    · rw [if_neg hs]; omega
  unfold f2iB f2iV
  rw [e, finW_nan (small_fin h)]
  exact ⟨rfl, rfl⟩
theorem zz_rg {x : Nat} (h : smallB x = true) : rg FloatKind.f64.format (zz x) ≤ 4607182418800017408 := by
  have hw := small_whole h
  obtain ⟨_, h2⟩ := small_int h
  unfold zz
  rw [h2]
  have hmd := Nat.div_add_mod (mg .f64 x) (2 ^ 1074)
  have hlt := Nat.mod_lt (mg .f64 x) (Nat.two_pow_pos 1074)
  generalize hW : mg .f64 x / 2 ^ 1074 = w at hw hmd ⊢
  obtain ⟨r, r1, r2, r3⟩ := fOI_exact (n := sg (nn .f64 x) w) (by rw [sg_abs]; omega)
  rw [sg_abs] at r3
  show rg FloatKind.f64.format (fop .sub .f64 x (floatOfInt .f64 (sg (nn .f64 x) w))) ≤ _
  rw [r2]
  have hf2 : finW .f64 (FloatKind.f64.format.word (decide (sg (nn .f64 x) w < 0)) r) = true := finW_of (by rw [rg_word _ _ (Nat.le_of_lt r1)]; exact Nat.le_refl _) r1
  rw [sub_word (small_fin h) hf2, rg_word _ _ (rnd_inf _ _ _)]
  refine rnd_le FloatKind.f64.format (u := 0) (v := 0) (by unfold lp; omega) ?_
  rw [Nat.pow_zero, Nat.mul_one, Nat.mul_one]
  have h1 : rungV FloatKind.f64.format 4607182418800017408 = 2 ^ 1074 := by decide +kernel
  rw [h1]
  have hv : vl .f64 (FloatKind.f64.format.word (decide (sg (nn .f64 x) w < 0)) r) = sg (nn .f64 x) (w * 2 ^ 1074) := by
    unfold vl
    rw [mg_word _ _ (Nat.le_of_lt r1), nn_word _ _ (Nat.le_of_lt r1), r3]
    generalize (2 : Nat) ^ 1074 = T
    unfold sg
    by_cases hs : nn .f64 x = true
    · rw [if_pos hs, if_pos hs]
      by_cases h0 : w = 0
      · subst h0; simp
      · rw [if_pos (decide_eq_true (by omega))]
    · rw [if_neg hs, if_neg hs, if_neg (by simp)]
  rw [hv]
  unfold vl
  generalize 2 ^ 1074 = T at hmd hlt ⊢
  have hm : mg .f64 x = w * T + mg .f64 x % T := by rw [Nat.mul_comm]; exact hmd.symm
  unfold sg
  by_cases hs : nn .f64 x = true
  · rw [if_pos hs, if_pos hs]; omega
  · rw [if_neg hs, if_neg hs]; omega
theorem impl_partOfTurn_eq {x : Nat} (h : smallB x = true) : z70 x = some (qq x) := by
  obtain ⟨_, h2⟩ := small_int h
  have hw := small_whole h
  have hi := integral_zero (small_fin h) (N := 1074) (by decide +kernel)
  have hf : fint .zero x = FloatKind.f64.format.nearest (nn .f64 x) (mg .f64 x / 2 ^ 1074) 0 := by
    have hi : (FloatKind.f64.decode x).integral .zero = .number (nn .f64 x) (mg .f64 x / 2 ^ 1074) 0 := hi
    unfold fint
    rw [finW_nan (small_fin h), hi, if_neg (by decide)]
    rfl
  obtain ⟨p, q⟩ := zh1 (show zas x = some (fint .zero x) by
    unfold zas zao
    simp only [nanQ, finW_nan (small_fin h), bnot, Bool.not_false, grd_true])
  unfold z70 z72
  rw [p, q]
  generalize hW : mg .f64 x / 2 ^ 1074 = w at hw h2 hf
  have hz : zz x = fop .sub .f64 x (if w = 0 then 0 else fint .zero x) ∧ fcmp .eql .f64 (fint .zero x) 0 = decide (w = 0) := by
    by_cases h0 : w = 0
    · rw [if_pos h0, decide_eq_true h0]
      subst h0
      constructor
      · unfold zz
        rw [h2]
        have : sg (nn .f64 x) 0 = 0 := by cases nn .f64 x <;> rfl
        rw [this]
        have : fOI .f64 0 = 0 := by decide +kernel
        rw [this]
      · rw [hf]
        cases nn .f64 x <;> decide +kernel
    · rw [if_neg h0, decide_eq_false h0]
      obtain ⟨r, r1, r2, r3⟩ := fOI_exact (n := sg (nn .f64 x) w) (by rw [sg_abs]; omega)
      have hs : decide (sg (nn .f64 x) w < 0) = nn .f64 x := by
        unfold sg
        cases nn .f64 x
        · exact decide_eq_false (by simp)
        · exact decide_eq_true (by simp; omega)
      have hr : rnd FloatKind.f64.format w 0 = r := by
        have e := fOI_eq .f64 (sg (nn .f64 x) w)
        rw [r2, sg_abs] at e
        have e2 := congrArg (rg FloatKind.f64.format) e
        rw [rg_word _ _ (Nat.le_of_lt r1), rg_word _ _ (rnd_inf _ _ _)] at e2
        exact e2.symm
      have hfi : fint .zero x = FloatKind.f64.format.word (nn .f64 x) r := by rw [hf, (nearest_word _ _ _ _).1, hr]
      have hr0 : r ≠ 0 := by
        rintro rfl
        rw [rungV_zero, sg_abs] at r3
        have := Nat.mul_pos (show 0 < w by omega) (Nat.two_pow_pos 1074)
        omega
      constructor
      · unfold zz
        rw [h2, show fOI .f64 (sg (nn .f64 x) w) = floatOfInt .f64 (sg (nn .f64 x) w) from rfl, r2, hs, hfi]
      · have hn1 : nanB .f64 (fint .zero x) = false := by rw [hfi]; exact nanB_word .f64 _ (Nat.le_of_lt r1)
        rw [(fcmp_num .f64 hn1 (by decide +kernel)).1]
        refine decide_eq_false ?_
        intro e
        rw [show srung FloatKind.f64.format 0 = 0 from by decide +kernel] at e
        have : rg FloatKind.f64.format (fint .zero x) = r := by rw [hfi]; exact rg_word _ _ (Nat.le_of_lt r1)
        unfold srung at e
        rw [this] at e
        unfold sg at e
        by_cases hs : ngB FloatKind.f64.format (fint .zero x) = true
        · rw [if_pos hs] at e; omega
        · rw [if_neg hs] at e; omega
  rw [hz.2]
  unfold qq
  rw [hz.1]
  by_cases h0 : w = 0
  · rw [decide_eq_true h0, if_pos h0, br_true]
    cases fcmp .lss .f64 (fop .sub .f64 x 0) 0 <;> rfl
  · rw [decide_eq_false h0, if_neg h0, br_false]
    cases fcmp .lss .f64 (fop .sub .f64 x (fint .zero x)) 0 <;> rfl
theorem impl_sine_eq {x : Nat} (h : smallB x = true) : zbc x = some (sineV x) := by
  obtain ⟨p, q⟩ := zfi (impl_partOfTurn_eq h)
  have h1 := fun u => (impl_sine_loop u).1
  have h2 := fun u => (impl_sine_loop u).2
  unfold zbc zbe
  simp only [p, q, h1, h2, grd_true]
  unfold sineV sineA halfS
  generalize qq x = q
  cases fcmp .geq .f64 q 4602678819172646912
  · cases fcmp .gtr .f64 q 4598175219545276416 <;> rfl
  · cases fcmp .gtr .f64 (fop .sub .f64 q 4602678819172646912) 4598175219545276416 <;> rfl
theorem up_fin (x : Nat) : finW .f64 (fcvV .f32 .f64 x) = finW .f32 x := by
  cases hn : nanB .f32 x with
  | true =>
    have e : fcvV .f32 .f64 x = qn .f64 := by unfold fcvV fcv; rw [hn]; rfl
    rw [e, qn_fin, not_finW_nan hn]
  | false =>
    cases hf : finW .f32 x with
    | true =>
      have h1 : rg FloatKind.f32.format x ≤ 2139095039 := by
        have := finW_lt hf
        have hi : FloatKind.f32.format.infRung = 2139095040 := by decide
        omega
      exact finW_of (up_rg (c := 5183643170566569984) (N := 925) h1 (by decide +kernel) (by decide +kernel) (by decide +kernel)) (by decide +kernel)
    | false =>
      have hr := inf_read hn hf
      have e : fcvV .f32 .f64 x = FloatKind.f64.format.word (nn .f32 x) FloatKind.f64.format.infRung := by
        obtain ⟨r, hr2⟩ := fcv_up x
        have hv : fcvV .f32 .f64 x = r := by unfold fcvV; rw [hr2]; rfl
        rw [hv]
        unfold fcv at hr2
        rw [hn] at hr2
        simp only [Bool.false_eq_true, if_false] at hr2
        unfold floatToFloatBits at hr2
        rw [if_neg (by intro h; cases h)] at hr2
        have hd : FloatKind.f32.decode x = .infinity (nn .f32 x) := hr
        rw [hd] at hr2
        simp only at hr2
        cases hr2
        rfl
      rw [e]
      unfold finW
      rw [rg_word _ _ (Nat.le_refl _)]
      exact decide_eq_false (by omega)
theorem up_is {x : Nat} (h : finW .f32 x = true) : ∃ s r, fcvV .f32 .f64 x = FloatKind.f64.format.word s r ∧ r < FloatKind.f64.format.infRung := by
  have e := up_eq h
  have hf : finW .f64 (fcvV .f32 .f64 x) = true := by rw [up_fin, h]
  refine ⟨_, _, e, ?_⟩
  have := finW_lt hf
  rw [e] at this
  have hw : rg FloatKind.f64.format (Ieee.double.word (nn .f32 x) (rnd Ieee.double (mg .f32 x) (lp .f32))) = _ := rg_word .f64 _ (rnd_inf _ _ _)
  rw [hw] at this
  exact this
theorem math_Abs_eq {s : Bool} {r : Nat} (h : r < FloatKind.f64.format.infRung) : zbr (FloatKind.f64.format.word s r) = some r := by
  have hi : FloatKind.f64.format.infRung = 9218868437227405312 := by decide
  rw [hi] at h
  have hn : nanB .f64 (FloatKind.f64.format.word s r) = false := nanB_word .f64 s (by rw [hi]; omega)
  have hn2 : nanB .f64 r = false := by
    have := nanB_word .f64 false (r := r) (by rw [hi]; omega)
    exact this
  have hw : FloatKind.f64.format.word s r % 9223372036854775808 = r := by
    have : rg FloatKind.f64.format (FloatKind.f64.format.word s r) = r := rg_word _ _ (by rw [hi]; omega)
    exact this
  have hb : bitI .andNot .u64 (Int.ofNat (FloatKind.f64.format.word s r)) 9223372036854775808 = Int.ofNat r := by
    generalize FloatKind.f64.format.word s r = x at hw
    have e1 : bitI .andNot .u64 (Int.ofNat x) 9223372036854775808 = IntKind.u64.wrap ((BitVec.ofInt 64 (Int.ofNat x) &&& ~~~BitVec.ofInt 64 9223372036854775808).toNat) := rfl
    have e2 : BitVec.ofInt 64 (Int.ofNat x) = BitVec.ofNat 64 x := BitVec.ofInt_natCast ..
    have e3 : (~~~BitVec.ofInt 64 9223372036854775808).toNat = 2 ^ 63 - 1 := by decide +kernel
    rw [e1, e2, BitVec.toNat_and, e3, BitVec.toNat_ofNat, Nat.and_two_pow_sub_one_eq_mod]
    have e4 : x % 2 ^ 64 % 2 ^ 63 = r := by omega
    rw [e4]
    simp [IntKind.wrap, IntKind.bits, IntKind.signed]
    omega
  unfold zbr zbs
  rw [hb]
  have ho : okU .f64 (Int.ofNat r) = true := decide_eq_true ⟨by simp, by
    show r < 2 ^ FloatKind.f64.format.width
    have : FloatKind.f64.format.width = 64 := by decide
    rw [this]; omega⟩
  have hc : cnI .f64 (Int.ofNat r) = r := by
    show cn .f64 r = r
    exact cn_of_not hn2
  rw [ho, hc]
  simp only [nanQ, hn, bnot, Bool.not_false, grd_true]
theorem impl_isHuge_eq {x : Nat} {s : Bool} {r : Nat} (e : x = FloatKind.f64.format.word s r) (h : r < FloatKind.f64.format.infRung) : z9d x = some (!smallB x) := by
  obtain ⟨p, q⟩ := zh9 (math_Abs_eq (s := s) h)
  unfold z9d z9e
  rw [e, p, q]
  have hn : nanB .f64 r = false := nanB_word .f64 false (Nat.le_of_lt h)
  have hs : srung FloatKind.f64.format r = (r : Int) := by
    have h1 : rg FloatKind.f64.format r = r := rg_word .f64 false (Nat.le_of_lt h)
    have h2 : nn .f64 r = false := nn_word .f64 false (Nat.le_of_lt h)
    unfold srung
    rw [h1, show ngB FloatKind.f64.format r = false from h2]
    rfl
  rw [(fcmp_num .f64 hn (by decide +kernel)).2.2.2.2.2, hs, show srung FloatKind.f64.format 4841369599423283200 = 4841369599423283200 from by decide +kernel]
  unfold smallB
  rw [rg_word _ _ (Nat.le_of_lt h)]
  by_cases hh : r < 4841369599423283200
  · rw [decide_eq_true hh, decide_eq_false (by omega)]; rfl
  · rw [decide_eq_false hh, decide_eq_true (by omega)]; rfl
theorem spec_huge {x : Nat} {s : Bool} {r : Nat} (e : x = FloatKind.f64.format.word s r) (h : r < FloatKind.f64.format.infRung) : (fcmp .geq .f64 x 4841369599423283200 || fcmp .leq .f64 x 14064741636278059008) = !smallB x := by
  have hn : nanB .f64 x = false := by rw [e]; exact nanB_word .f64 s (Nat.le_of_lt h)
  have hs : srung FloatKind.f64.format x = sg s r := by
    have h1 : rg FloatKind.f64.format x = r := by rw [e]; exact rg_word .f64 s (Nat.le_of_lt h)
    have h2 : nn .f64 x = s := by rw [e]; exact nn_word .f64 s (Nat.le_of_lt h)
    unfold srung
    rw [h1, show ngB FloatKind.f64.format x = s from h2]
  rw [(fcmp_num .f64 hn (by decide +kernel)).2.2.2.2.2, (fcmp_num .f64 hn (by decide +kernel)).2.2.2.1, hs, show srung FloatKind.f64.format 4841369599423283200 = 4841369599423283200 from by decide +kernel, show srung FloatKind.f64.format 14064741636278059008 = -4841369599423283200 from by decide +kernel]
  unfold smallB
  rw [show rg FloatKind.f64.format x = r from by rw [e]; exact rg_word .f64 s (Nat.le_of_lt h)]
  unfold sg
  by_cases hh : r < 4841369599423283200
  · rw [decide_eq_true hh]
    cases s
    · rw [if_neg (by decide), decide_eq_false (by omega), decide_eq_false (by omega)]; rfl
    · rw [if_pos rfl, decide_eq_false (by omega), decide_eq_false (by omega)]; rfl
  · rw [decide_eq_false hh]
    cases s
    · rw [if_neg (by decide), decide_eq_true (by omega)]; rfl
    · rw [if_pos rfl, decide_eq_true (p := -(r : Int) ≤ -4841369599423283200) (by omega)]
      simp
theorem rnd1_rg {u D p a b m c d B : Nat} (hu : rg FloatKind.f64.format u ≤ a) (hp : rg FloatKind.f64.format p ≤ b) (ha : a < FloatKind.f64.format.infRung) (hb : b < FloatKind.f64.format.infRung) (hm : m < FloatKind.f64.format.infRung) (hc : c < FloatKind.f64.format.infRung)
    (h1 : rungV FloatKind.f64.format a * rungV FloatKind.f64.format b ≤ rungV FloatKind.f64.format m * 2 ^ 1074) (hD : finW .f64 D = true) (hB : B ≤ mg .f64 D) (hB0 : 0 < B) (h2 : 2 * rungV FloatKind.f64.format m * 2 ^ 1074 ≤ rungV FloatKind.f64.format c * B)
    (h3 : rungV FloatKind.f64.format 4607182418800017408 + rungV FloatKind.f64.format c ≤ rungV FloatKind.f64.format d) : rg FloatKind.f64.format (rnd1 u D p) ≤ d := by
  have g1 : rg FloatKind.f64.format (fop .mul .f64 u p) ≤ m := mul_rg (N := 1074) hu hp ha hb (by decide +kernel) h1
  have g2 : rg FloatKind.f64.format (fop .quo .f64 (fop .mul .f64 u p) D) ≤ c := quo_rg (N := 1074) (finW_of g1 hm) hD (mg_le g1) hB hB0 (by decide +kernel) h2
  exact sub_rg (show rg FloatKind.f64.format 4607182418800017408 ≤ 4607182418800017408 by decide +kernel) g2 (by decide +kernel) hc h3
theorem poly_rg {u : Nat} (hu : rg FloatKind.f64.format u ≤ 4661225614328463360) : rg FloatKind.f64.format (poly u) ≤ 5039527983027585024 := by
  have g0 := rnd1_rg (a := 4661225614328463360) (b := 4607182418800017408) (m := 4661225614328463360) (c := 4656722014701092864) (d := 4661225614328463360) (B := 6 * 2 ^ 1074) (D := 4643492690795692032) hu (show rg FloatKind.f64.format 4607182418800017408 ≤ 4607182418800017408 by decide +kernel) (by decide +kernel) (by decide +kernel) (by decide +kernel) (by decide +kernel) (by decide +kernel) (by decide +kernel) (by decide +kernel) (by decide +kernel) (by decide +kernel) (by decide +kernel)
  have g1 := rnd1_rg (a := 4661225614328463360) (b := 4661225614328463360) (m := 4715268809856909312) (c := 4710765210229538816) (d := 4715268809856909312) (B := 6 * 2 ^ 1074) (D := 4641592734702895104) hu g0 (by decide +kernel) (by decide +kernel) (by decide +kernel) (by decide +kernel) (by decide +kernel) (by decide +kernel) (by decide +kernel) (by decide +kernel) (by decide +kernel) (by decide +kernel)
  have g2 := rnd1_rg (a := 4661225614328463360) (b := 4715268809856909312) (m := 4769312005385355264) (c := 4764808405757984768) (d := 4769312005385355264) (B := 6 * 2 ^ 1074) (D := 4639692778610098176) hu g1 (by decide +kernel) (by decide +kernel) (by decide +kernel) (by decide +kernel) (by decide +kernel) (by decide +kernel) (by decide +kernel) (by decide +kernel) (by decide +kernel) (by decide +kernel)
  have g3 := rnd1_rg (a := 4661225614328463360) (b := 4769312005385355264) (m := 4823355200913801216) (c := 4818851601286430720) (d := 4823355200913801216) (B := 6 * 2 ^ 1074) (D := 4637440978796412928) hu g2 (by decide +kernel) (by decide +kernel) (by decide +kernel) (by decide +kernel) (by decide +kernel) (by decide +kernel) (by decide +kernel) (by decide +kernel) (by decide +kernel) (by decide +kernel)
  have g4 := rnd1_rg (a := 4661225614328463360) (b := 4823355200913801216) (m := 4877398396442247168) (c := 4872894796814876672) (d := 4877398396442247168) (B := 6 * 2 ^ 1074) (D := 4634766966517661696) hu g3 (by decide +kernel) (by decide +kernel) (by decide +kernel) (by decide +kernel) (by decide +kernel) (by decide +kernel) (by decide +kernel) (by decide +kernel) (by decide +kernel) (by decide +kernel)
  have g5 := rnd1_rg (a := 4661225614328463360) (b := 4877398396442247168) (m := 4931441591970693120) (c := 4926937992343322624) (d := 4931441591970693120) (B := 6 * 2 ^ 1074) (D := 4631107791820423168) hu g4 (by decide +kernel) (by decide +kernel) (by decide +kernel) (by decide +kernel) (by decide +kernel) (by decide +kernel) (by decide +kernel) (by decide +kernel) (by decide +kernel) (by decide +kernel)
  have g6 := rnd1_rg (a := 4661225614328463360) (b := 4931441591970693120) (m := 4985484787499139072) (c := 4980981187871768576) (d := 4985484787499139072) (B := 6 * 2 ^ 1074) (D := 4626322717216342016) hu g5 (by decide +kernel) (by decide +kernel) (by decide +kernel) (by decide +kernel) (by decide +kernel) (by decide +kernel) (by decide +kernel) (by decide +kernel) (by decide +kernel) (by decide +kernel)
  have g7 := rnd1_rg (a := 4661225614328463360) (b := 4985484787499139072) (m := 5039527983027585024) (c := 5035024383400214528) (d := 5039527983027585024) (B := 6 * 2 ^ 1074) (D := 4618441417868443648) hu g6 (by decide +kernel) (by decide +kernel) (by decide +kernel) (by decide +kernel) (by decide +kernel) (by decide +kernel) (by decide +kernel) (by decide +kernel) (by decide +kernel) (by decide +kernel)
  exact g7
theorem rg_neg (x : Nat) (h : nanB .f64 x = false) : rg FloatKind.f64.format (fneg .f64 x) = rg FloatKind.f64.format x := by
  have e : fneg .f64 x = x ^^^ 2 ^ 63 := by
    unfold fneg
    rw [h, if_neg (by decide)]
    rfl
  rw [e]
  show (x ^^^ 2 ^ 63) % FloatKind.f64.format.signWeight = x % FloatKind.f64.format.signWeight
  rw [show FloatKind.f64.format.signWeight = 2 ^ 63 from by decide, Nat.xor_mod_two_pow, Nat.mod_self, Nat.xor_zero]
theorem halfS_rg {r : Nat} (h : rg FloatKind.f64.format r ≤ 4616189618054758400) : rg FloatKind.f64.format (halfS r) ≤ 5066549580791808000 := by
  have key : ∀ y, rg FloatKind.f64.format y ≤ 4620693217682128896 → rg FloatKind.f64.format (fop .mul .f64 (fop .mul .f64 y 4618760256179416344) (poly (fop .mul .f64 (fop .mul .f64 y 4618760256179416344) (fop .mul .f64 y 4618760256179416344)))) ≤ 5066549580791808000 := by
    intro y hy
    have g1 : rg FloatKind.f64.format (fop .mul .f64 y 4618760256179416344) ≤ 4634204016564240384 := mul_rg (N := 1074) hy (show rg FloatKind.f64.format 4618760256179416344 ≤ 4618760256179416344 by decide +kernel) (by decide +kernel) (by decide +kernel) (by decide +kernel) (by decide +kernel)
    have g2 : rg FloatKind.f64.format (fop .mul .f64 (fop .mul .f64 y 4618760256179416344) (fop .mul .f64 y 4618760256179416344)) ≤ 4661225614328463360 := mul_rg (N := 1074) g1 g1 (by decide +kernel) (by decide +kernel) (by decide +kernel) (by decide +kernel)
    exact mul_rg (N := 1074) g1 (poly_rg g2) (by decide +kernel) (by decide +kernel) (by decide +kernel) (by decide +kernel)
  unfold halfS
  split
  · exact key _ (sub_rg (show rg FloatKind.f64.format 4602678819172646912 ≤ 4602678819172646912 by decide +kernel) h (by decide +kernel) (by decide +kernel) (by decide +kernel))
  · exact key _ (Nat.le_trans h (by decide))
theorem sineV_rg {x : Nat} (h : smallB x = true) : rg FloatKind.f64.format (sineV x) ≤ 5066549580791808000 := by
  have g0 := zz_rg h
  have g1 : rg FloatKind.f64.format (qq x) ≤ 4611686018427387904 := by
    unfold qq
    split
    · exact add_rg g0 (show rg FloatKind.f64.format 4607182418800017408 ≤ 4607182418800017408 by decide +kernel) (by decide +kernel) (by decide +kernel) (by decide +kernel)
    · exact Nat.le_trans g0 (by decide)
  unfold sineV sineA
  generalize qq x = q at g1
  split
  · have g2 : rg FloatKind.f64.format (halfS (fop .sub .f64 q 4602678819172646912)) ≤ 5066549580791808000 := halfS_rg (sub_rg g1 (show rg FloatKind.f64.format 4602678819172646912 ≤ 4602678819172646912 by decide +kernel) (by decide +kernel) (by decide +kernel) (by decide +kernel))
    rw [rg_neg _ (finW_nan (finW_of g2 (by decide +kernel)))]
    exact g2
  · exact halfS_rg (Nat.le_trans g1 (by decide))
theorem sineV_down {x : Nat} (h : smallB x = true) : fcvB .f64 .f32 (sineV x) = true :=
  down_t (c := 1920991232) (N := 925) (sineV_rg h) (by decide +kernel) (by decide +kernel) (by decide +kernel) (by decide +kernel)
noncomputable def sineT (x : Nat) : Nat := if finB x = true then (if smallB (fcvV .f32 .f64 x) = true then fcvV .f64 .f32 (sineV (fcvV .f32 .f64 x)) else 0) else qn .f32
theorem math_NaN_eq : zbt = some (qn .f64) := by
  unfold zbt zbw
  rw [show okU .f64 9221120237041090561 = true from by decide +kernel, show cnI .f64 9221120237041090561 = qn .f64 from by decide +kernel]; rfl
theorem impl_SineTurns_eq (x : Nat) : z7k x = some (sineT x) := by
  obtain ⟨p1, q1⟩ := zc5 (impl_IsFinite_eq x)
  obtain ⟨p2, q2⟩ := zfv math_NaN_eq
  unfold z7k z7c sineT
  rw [p1, q1, p2, q2, show fcvB .f64 .f32 (qn .f64) = true from by decide +kernel, show fcvV .f64 .f32 (qn .f64) = qn .f32 from by decide +kernel]
  cases hf : finB x
  · rfl
  · rw [finB_eq] at hf
    obtain ⟨s, r, e, hr⟩ := up_is hf
    obtain ⟨p3, q3⟩ := zgp (impl_isHuge_eq e hr)
    rw [p3, q3]
    cases hs : smallB (fcvV .f32 .f64 x)
    · rfl
    · obtain ⟨p4, q4⟩ := zh5 (impl_sine_eq hs)
      rw [p4, q4, sineV_down hs]; rfl
theorem spec_l01SineWide_eq {x : Nat} (hb : smallB x = true) (hg : fcmp .geq .f64 x 4841369599423283200 = false) (hl : fcmp .leq .f64 x 14064741636278059008 = false) : z5h x = some (sineV x) := by
  obtain ⟨h0, _⟩ := small_int hb
  have h1 := fun u => (spec_sine_loop u).1
  have h2 := fun u => (spec_sine_loop u).2
  have h3 : fcmp .neq .f64 (fop .sub .f64 x x) 0 = false := by rw [subself_neq, small_fin hb]; rfl
  unfold z5h z5r
  simp only [h0, h1, h2, h3, hg, hl, grd_true, br_false]
  unfold sineV sineA halfS qq zz
  generalize fop .sub .f64 x (fOI .f64 (f2iV .f64 x .i64)) = z
  cases fcmp .lss .f64 z 0
  · cases h5 : fcmp .geq .f64 z 4602678819172646912
    · cases hc : fcmp .gtr .f64 z 4598175219545276416 <;> simp [br, hc, h5]
    · cases hc : fcmp .gtr .f64 (fop .sub .f64 z 4602678819172646912) 4598175219545276416 <;> simp [br, hc, h5]
  · generalize fop .add .f64 z 4607182418800017408 = z
    cases h5 : fcmp .geq .f64 z 4602678819172646912
    · cases hc : fcmp .gtr .f64 z 4598175219545276416 <;> simp [br, hc, h5]
    · cases hc : fcmp .gtr .f64 (fop .sub .f64 z 4602678819172646912) 4598175219545276416 <;> simp [br, hc, h5]
theorem spec_l01Narrow_eq {x : Nat} (h : fcvB .f64 .f32 x = true) : z7p x = some (fcvV .f64 .f32 x) := by
  unfold z7p z7o
  rw [h]; rfl
theorem spec_l01Sine_eq (x : Nat) : z7n x = some (sineT x) := by
  have key : ∀ v, z5h (fcvV .f32 .f64 x) = some v → fcvB .f64 .f32 v = true → z7n x = some (fcvV .f64 .f32 v) := by
    intro v h1 h2
    obtain ⟨p1, q1⟩ := zf4 h1
    obtain ⟨p2, q2⟩ := zfq (spec_l01Narrow_eq h2)
    unfold z7n z8u
    rw [p1, q1, p2, q2]; rfl
  unfold sineT
  cases hf : finB x
  · have h3 : fcmp .neq .f64 (fop .sub .f64 (fcvV .f32 .f64 x) (fcvV .f32 .f64 x)) 0 = true := by
      rw [subself_neq, up_fin, ← finB_eq, hf]; rfl
    obtain ⟨p2, q2⟩ := zfv math_NaN_eq
    have := key (qn .f64) (by unfold z5h z5r; rw [h3, p2, q2]; rfl) (by decide +kernel)
    rw [this, show fcvV .f64 .f32 (qn .f64) = qn .f32 from by decide +kernel]; rfl
  · have hf' := hf
    rw [finB_eq] at hf
    obtain ⟨s, r, e, hr⟩ := up_is hf
    have hh := spec_huge e hr
    have h3 : fcmp .neq .f64 (fop .sub .f64 (fcvV .f32 .f64 x) (fcvV .f32 .f64 x)) 0 = false := by
      rw [subself_neq, up_fin, hf]; rfl
    cases hs : smallB (fcvV .f32 .f64 x)
    · rw [hs] at hh
      have := key 0 (by
        unfold z5h z5r
        rw [h3]
        cases hg : fcmp .geq .f64 (fcvV .f32 .f64 x) 4841369599423283200
        · rw [hg] at hh
          have hl : fcmp .leq .f64 (fcvV .f32 .f64 x) 14064741636278059008 = true := hh
          rw [hl]; rfl
        · rfl) (by decide +kernel)
      rw [this, show fcvV .f64 .f32 0 = 0 from by decide +kernel]; rfl
    · rw [hs] at hh
      have hg : fcmp .geq .f64 (fcvV .f32 .f64 x) 4841369599423283200 = false := by
        cases hg : fcmp .geq .f64 (fcvV .f32 .f64 x) 4841369599423283200 with
        | false => rfl
        | true => rw [hg] at hh; cases hh
      have hl : fcmp .leq .f64 (fcvV .f32 .f64 x) 14064741636278059008 = false := by
        rw [hg] at hh
        exact hh
      exact key _ (spec_l01SineWide_eq hs hg hl) (sineV_down hs)
def plateA (n i : Nat) : Nat := fop .sub .f32 (fop .quo .f32 (fOI .f32 (Int.ofNat i)) (fOI .f32 (subI .i64 (Int.ofNat n) 1))) 1056964608
noncomputable def plateL (n i : Nat) : Nat := fop .mul .f32 (fop .mul .f32 1073741824 (sineT (plateA n i))) (sineT (fop .add .f32 (plateA n i) 1048576000))
noncomputable def plateD (n i : Nat) : Nat := fop .mul .f32 (fop .mul .f32 1073741824 (sineT (plateA n i))) (sineT (plateA n i))
def listOf (f : Nat → Nat) (n : Nat) : List Nat := (List.range n).map f
theorem listOf_length (f : Nat → Nat) (n : Nat) : (listOf f n).length = n := by simp [listOf]
theorem listOf_succ (f : Nat → Nat) (n : Nat) : listOf f (n + 1) = listOf f n ++ [f n] := by simp [listOf, List.range_succ]
theorem impl_Plate_loop {n : Nat} (hn : n ≤ 24) :
    z2l (Int.ofNat n) (Int.ofNat n) big 0 0 0 0 [] [] [] = some (Int.ofNat n, false, n, n, n, listOf (plateA n) n, listOf (plateL n) n, listOf (plateD n) n) := by
  have := runs (L := fun m i => z2l (Int.ofNat n) (Int.ofNat n) m i i.toNat i.toNat i.toNat (listOf (plateA n) i.toNat) (listOf (plateL n) i.toNat) (listOf (plateD n) i.toNat)) (len := n) (e := (Int.ofNat n, false, n, n, n, listOf (plateA n) n, listOf (plateL n) n, listOf (plateD n) n))
    (fun m i hi => by
      show z2l _ _ _ _ i i i (listOf (plateA n) i) (listOf (plateL n) i) (listOf (plateD n) i) = z2l _ _ _ _ (i + 1) (i + 1) (i + 1) (listOf (plateA n) (i + 1)) (listOf (plateL n) (i + 1)) (listOf (plateD n) (i + 1))
      obtain ⟨p1, q1⟩ := zcv (impl_SineTurns_eq (plateA n i))
      obtain ⟨p2, q2⟩ := zcv (impl_SineTurns_eq (fop .add .f32 (plateA n i) 1048576000))
      rw [zax]; unfold z4p
      rw [ltN_t hi, addI1 (by omega), okA2_1 _ (b := listOf (plateA n) i) (listOf_length _ _) (by omega), okA2_1 _ (b := listOf (plateL n) i) (listOf_length _ _) (by omega), okA2_1 _ (b := listOf (plateD n) i) (listOf_length _ _) (by omega), listOf_succ, listOf_succ, listOf_succ]
      show br _ (grd (z6l (plateA n i)) (grd (z6l (fop .add .f32 (plateA n i) 1048576000)) (grd _ (grd _ (grd _ (z2l _ _ _ _ _ _ _ (aF _ (pF [plateA n i] 0 (muN 1 1))) (aF _ (pF [fop .mul .f32 (fop .mul .f32 1073741824 (z45 (plateA n i))) (z45 (fop .add .f32 (plateA n i) 1048576000))] 0 (muN 1 1))) (aF _ (pF [fop .mul .f32 (fop .mul .f32 1073741824 (z45 (plateA n i))) (z45 (plateA n i))] 0 (muN 1 1))))))))) _ = _
      rw [p1, q1, p2, q2]
      rfl)
    (fun m => by
      show z2l _ _ _ _ n n n (listOf (plateA n) n) (listOf (plateL n) n) (listOf (plateD n) n) = _
      rw [zax]; unfold z4p; rw [ltN_f (Nat.le_refl _)]; rfl) (by omega)
  exact this
theorem spec_Plate_loop {n : Nat} (hn : n ≤ 24) :
    z3e (Int.ofNat n) big 0 0 0 0 [] [] [] = some (Int.ofNat n, false, n, n, n, listOf (plateA n) n, listOf (plateL n) n, listOf (plateD n) n) := by
  have := runs (L := fun m i => z3e (Int.ofNat n) m i i.toNat i.toNat i.toNat (listOf (plateA n) i.toNat) (listOf (plateL n) i.toNat) (listOf (plateD n) i.toNat)) (len := n) (e := (Int.ofNat n, false, n, n, n, listOf (plateA n) n, listOf (plateL n) n, listOf (plateD n) n))
    (fun m i hi => by
      show z3e _ _ _ i i i (listOf (plateA n) i) (listOf (plateL n) i) (listOf (plateD n) i) = z3e _ _ _ (i + 1) (i + 1) (i + 1) (listOf (plateA n) (i + 1)) (listOf (plateL n) (i + 1)) (listOf (plateD n) (i + 1))
      obtain ⟨p1, q1⟩ := zdm (spec_l01Sine_eq (plateA n i))
      obtain ⟨p2, q2⟩ := zdm (spec_l01Sine_eq (fop .add .f32 (plateA n i) 1048576000))
      rw [zbx]; unfold z5i
      rw [ltN_t hi, addI1 (by omega), okA2_1 _ (b := listOf (plateA n) i) (listOf_length _ _) (by omega), okA2_1 _ (b := listOf (plateL n) i) (listOf_length _ _) (by omega), okA2_1 _ (b := listOf (plateD n) i) (listOf_length _ _) (by omega), listOf_succ, listOf_succ, listOf_succ]
      show br _ (grd (z7j (plateA n i)) (grd (z7j (fop .add .f32 (plateA n i) 1048576000)) (grd _ (grd _ (grd _ (z3e _ _ _ _ _ _ (aF _ (pF [plateA n i] 0 (muN 1 1))) (aF _ (pF [fop .mul .f32 (fop .mul .f32 1073741824 (z4f (plateA n i))) (z4f (fop .add .f32 (plateA n i) 1048576000))] 0 (muN 1 1))) (aF _ (pF [fop .mul .f32 (fop .mul .f32 1073741824 (z4f (plateA n i))) (z4f (plateA n i))] 0 (muN 1 1))))))))) _ = _
      rw [p1, q1, p2, q2]
      rfl)
    (fun m => by
      show z3e _ _ _ n n n (listOf (plateA n) n) (listOf (plateL n) n) (listOf (plateD n) n) = _
      rw [zbx]; unfold z5i; rw [ltN_f (Nat.le_refl _)]; rfl) (by omega)
  exact this
noncomputable def plateR (c : Int) : Nat × Nat × Nat × Bool × List Nat × List Nat × List Nat :=
  if inB c 2 24 = true then (if validProfB (listOf (plateA c.toNat) c.toNat) (listOf (plateL c.toNat) c.toNat) (listOf (plateD c.toNat) c.toNat) = true then (c.toNat, c.toNat, c.toNat, true, listOf (plateA c.toNat) c.toNat, listOf (plateL c.toNat) c.toNat, listOf (plateD c.toNat) c.toNat) else (0, 0, 0, false, [], [], [])) else (0, 0, 0, false, [], [], [])
theorem listOf_pF (f : Nat → Nat) (n : Nat) : pF (listOf f n) 0 (muN n 1) = listOf f n := by
  have := pF_all (listOf f n); rw [listOf_length] at this; exact this
theorem impl_PlateProfile_eq (c : Int) : z4a c = some (plateR c) := by
  obtain ⟨p1, q1⟩ := zgs (impl_within_eq c 2 24)
  unfold z4a z6d plateR
  rw [p1, q1]
  cases h : inB c 2 24
  · rfl
  · have hc := inB_le h
    obtain ⟨n, rfl⟩ : ∃ n : Nat, c = Int.ofNat n := ⟨c.toNat, by simp; omega⟩
    have hn : n ≤ 24 := by have := hc.2; simp at this; omega
    obtain ⟨g1, _, _, g2, g3, g4, g5, g6, g7⟩ := zd8 rfl (impl_Plate_loop hn)
    have ht : (Int.ofNat n).toNat = n := rfl
    obtain ⟨p5, q5⟩ := zen (impl_ValidProfile_eq (as := listOf (plateA n) n) (ls := listOf (plateL n) n) (ds := listOf (plateD n) n) (by rw [listOf_length]; omega) (by rw [listOf_length]; omega))
    simp only [listOf_length] at p5 q5
    simp only [g1, g2, g3, g4, g5, g6, g7, ht, listOf_pF, p5, q5, grd_true, bnot_true, br_false, if_true]
    cases validProfB (listOf (plateA n) n) (listOf (plateL n) n) (listOf (plateD n) n) <;> rfl
theorem spec_PlateProfile_eq (c : Int) : z4b c = some (plateR c) := by
  obtain ⟨p1, q1⟩ := zh2 (spec_l00In_eq c 2 24)
  obtain ⟨n0, n1, n2, n3⟩ := zgw (show z8e = some ([], [], []) from rfl)
  unfold z4b z6b plateR
  rw [p1, q1]
  cases h : inB c 2 24
  · rfl
  · have hc := inB_le h
    obtain ⟨n, rfl⟩ : ∃ n : Nat, c = Int.ofNat n := ⟨c.toNat, by simp; omega⟩
    have hn : n ≤ 24 := by have := hc.2; simp at this; omega
    obtain ⟨g1, _, _, g2, g3, g4, g5, g6, g7⟩ := zei rfl (spec_Plate_loop hn)
    have ht : (Int.ofNat n).toNat = n := rfl
    obtain ⟨k0, k1, k2, k3, k4, k5, k6⟩ := zfy (show z5k (Int.ofNat n) = some (n, n, n, listOf (plateA n) n, listOf (plateL n) n, listOf (plateD n) n) by
      unfold z5k z80
      simp only [n0, n1, n2, n3, g1, g2, g3, g4, g5, g6, g7, grd_true])
    obtain ⟨p5, q5⟩ := zh4 (spec_l02Is_eq (as := listOf (plateA n) n) (ls := listOf (plateL n) n) (ds := listOf (plateD n) n))
    simp only [listOf_length] at p5 q5
    simp only [k0, k1, k2, k3, k4, k5, k6, ht, listOf_pF, p5, q5, grd_true, bnot_true, br_false, if_true]
    cases validProfB (listOf (plateA n) n) (listOf (plateL n) n) (listOf (plateD n) n) <;> rfl
theorem plateR_len (c : Int) : (plateR c).2.2.2.2.1.length = (plateR c).1 ∧ (plateR c).2.2.2.2.2.1.length = (plateR c).2.1 ∧ (plateR c).2.2.2.2.2.2.length = (plateR c).2.2.1 ∧ (plateR c).1 ≤ 24 ∧ (plateR c).2.1 ≤ 24 ∧ (plateR c).2.2.1 ≤ 24 := by
  unfold plateR
  split
  · rename_i h
    have hc := inB_le h
    split
    · exact ⟨listOf_length _ _, listOf_length _ _, listOf_length _ _, by show c.toNat ≤ 24; omega, by show c.toNat ≤ 24; omega, by show c.toNat ≤ 24; omega⟩
    · simp
  · simp
theorem plain_FnExactPlateProfile {c : Int} (kc : bdI .i64 c) : z5f c = some true := by
  obtain ⟨i0, i1, i2, i3, i4, i5, i6, i7⟩ := zeh (impl_PlateProfile_eq c)
  obtain ⟨s0, s1, s2, s3, s4, s5, s6, s7⟩ := zef (spec_PlateProfile_eq c)
  obtain ⟨y1, y2, y3, y4, y5, y6⟩ := plateR_len c
  generalize plateR c = R at *
  obtain ⟨m1, m2, m3, ok, us, vs, ws⟩ := R
  simp only at y1 y2 y3 y4 y5 y6
  subst y1 y2 y3
  obtain ⟨p7, q7⟩ := zfo (laws_eqProfile_refl (as := us) (ls := vs) (ds := ws) (by omega) (by omega) (by omega))
  obtain ⟨G1, G2, _, _, G5⟩ := z9j rfl (mark_loop (L := z1q us.length) (k0 := 1) (ys := us) rfl (by omega) (by omega) (by omega) (fun n k i b => by rw [z90]; rfl))
  obtain ⟨H1, H2, _, _, H5⟩ := z94 rfl (mark_loop (L := z1c vs.length) (k0 := 1 + (us.length : Int)) (ys := vs) rfl (by omega) (by omega) (by omega) (fun n k i b => by rw [z8j]; rfl))
  obtain ⟨I1, I2, _, _, I5⟩ := z95 rfl (mark_loop (L := z1g ws.length) (k0 := 1 + (us.length : Int) + (vs.length : Int)) (ys := ws) rfl (by omega) (by omega) (by omega) (fun n k i b => by rw [z8n]; rfl))
  obtain ⟨J1, J2⟩ := zet (laws_heldProfile_eq (k0 := 1) (l := us.length) (m := vs.length) (n := ws.length) (by omega) (by omega) (by omega) (by omega) (by omega))
  have z2 : ltI (1 + (us.length : Int) + (vs.length : Int) + (ws.length : Int)) 0 = false := ltI_f (by omega)
  unfold z5f z5e
  simp only [i0, i1, i2, i3, i4, i5, i6, i7, s0, s1, s2, s3, s4, s5, s6, s7, pF_all, p7, q7, G1, G2, G5, H1, H2, H5, I1, I2, I5, marks_pF, J1, J2, z2, grd_true, br_false, bnot_true, beqB_self, neI_self]
end Go.Rf
