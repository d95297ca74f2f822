/-
  Plain laws.
-/
import Derived.Test.YtihlcjjbenkokaaEvenRotorP
set_option linter.unusedVariables false
set_option linter.unusedSimpArgs false
set_option maxRecDepth 100000
set_option maxHeartbeats 4000000
namespace Go.Rf
open Go
def finB (x : Nat) : Bool := fcmp .eql .f32 (fop .sub .f32 x x) 0
def leastB (x : Nat) : Bool := finB x && fcmp .geq .f32 x 0
def posB (x : Nat) : Bool := finB x && fcmp .gtr .f32 x 0
theorem floatBits_nan {op : BinOp} {k : FloatKind} {x y : Nat} (h : nanB k x = true ∨ nanB k y = true) : floatBits op k x y = none := by
  unfold floatBits
  rcases h with h | h
  · obtain ⟨s, f, e⟩ := nan_form h
    cases op <;> simp only [Ieee.Format.add, Ieee.Format.sub, Ieee.Format.mul, Ieee.Format.div, e, sum_nan_left, product_nan_left, quotient_nan_left, Option.map_none]
  · obtain ⟨s, f, e⟩ := nan_form h
    cases op <;> simp only [Ieee.Format.add, Ieee.Format.sub, Ieee.Format.mul, Ieee.Format.div, e, sum_nan_right, product_nan_right, quotient_nan_right, Option.map_none, Ieee.Datum.opposite]
theorem fop_nan {op : BinOp} {k : FloatKind} {x y : Nat} (h : nanB k x = true ∨ nanB k y = true) : fop op k x y = qn k := by
  unfold fop
  rw [floatBits_nan h]; rfl
theorem fin_num {x : Nat} (h : finB x = true) : nanB .f32 x = false := by
  cases hn : nanB .f32 x with
  | false => rfl
  | true =>
    unfold finB at h
    rw [fop_nan (.inl hn), (fcmp_nan .f32 (.inl (nanB_qn .f32))).1] at h
    cases h
theorem nan_zero : nanB .f32 0 = false := by decide +kernel
theorem leq_not_gtr {x y : Nat} (hx : nanB .f32 x = false) (hy : nanB .f32 y = false) : fcmp .leq .f32 x y = !fcmp .gtr .f32 x y := by
  obtain ⟨_, _, _, h4, h5, _⟩ := fcmp_num .f32 hx hy
  rw [h4, h5]
  by_cases h : srung FloatKind.f32.format x ≤ srung FloatKind.f32.format y
  · rw [decide_eq_true h, decide_eq_false (by omega)]; rfl
  · rw [decide_eq_false h, decide_eq_true (by omega)]; rfl
theorem impl_IsFinite_eq (x : Nat) : zf9 x = some (finB x) := rfl
theorem spec_l01Finite_eq (x : Nat) : zdq x = some (finB x) := rfl
theorem impl_isLeast_eq (x : Nat) : zdn x = some (leastB x) := by
  obtain ⟨h1, h2⟩ := zdu (impl_IsFinite_eq x)
  unfold zdn zdl leastB
  rw [h1, h2]
  cases finB x <;> rfl
theorem spec_l02Least_eq (x : Nat) : zct x = some (leastB x) := by
  obtain ⟨h1, h2⟩ := zcz (spec_l01Finite_eq x)
  unfold zct zcs leastB
  rw [h1, h2]
  cases finB x <;> rfl
theorem spec_l02Above_eq (x : Nat) : zcv x = some (posB x) := by
  obtain ⟨h1, h2⟩ := zcz (spec_l01Finite_eq x)
  unfold zcv zcr posB
  rw [h1, h2]
  cases finB x <;> rfl
theorem impl_arePositive_1_eq (x : Nat) : z97 x = some (!posB x) := by
  obtain ⟨h1, h2⟩ := zdu (impl_IsFinite_eq x)
  unfold z97 z98 posB
  rw [h1, h2]
  cases hf : finB x with
  | false => rfl
  | true => simp only [br_if, grd_true, bnot, Bool.not_true, leq_not_gtr (fin_num hf) nan_zero]; simp
theorem impl_areLeast_1_eq (x : Nat) : zbo x = some (!leastB x) := by
  obtain ⟨h1, h2⟩ := zlb (impl_isLeast_eq x)
  unfold zbo zbn
  rw [h1, h2]; rfl
theorem laws_sameFloat_refl (x : Nat) : zci x x = some true := by
  unfold zci zcf
  simp only [neq_self]
  cases hn : nanB .f64 x with
  | true => rfl
  | false =>
    have he : fcmp .eql .f64 x x = true := by rw [(fcmp_num .f64 hn hn).1]; simp
    simp only [br_if, Bool.false_eq_true, if_false, he, beqB, BEq.rfl]
    split <;> rfl
theorem slices_IndexFunc_areLeast {xs : List Nat} (hl : xs.length < 281474976710656) : ∃ r : Int, z5b xs.length xs = some r ∧ leI 0 r = !xs.all leastB := by
  unfold z5b z5c
  rcases scan_all (L := z27 xs.length (Int.ofNat xs.length) xs) xs leastB (g := fun i => Int.ofNat i) (e := (Int.ofNat xs.length, false))
    (fun n i hi => by
      rw [z9a]; unfold z40; rw [ltN_t hi, okIx_t hi, ix1, addI1 (by omega)]
      simp only [gF]
      generalize xs.getD i 0 = x
      obtain ⟨h1, h2⟩ := znx (impl_areLeast_1_eq x)
      simp only [br_if, grd_true, h1, h2]
      rcases Bool.eq_false_or_eq_true (leastB x) with h | h <;> simp [h])
    (fun n => by rw [z9a]; unfold z40; rw [ltN_f (Nat.le_refl _)]; rfl) hl with ⟨h1, h2⟩ | ⟨j, h2, h3, h4⟩
  · obtain ⟨g1, g2, _⟩ := zfx rfl h2
    exact ⟨Int.negSucc 0, by rw [g1, g2]; rfl, by rw [h1]; rfl⟩
  · obtain ⟨g1, g2, g3⟩ := zfy rfl h4
    exact ⟨Int.ofNat j, by rw [g1, g2, g3]; rfl, by rw [h3]; exact decide_eq_true (by simp)⟩
theorem slices_ContainsFunc_areLeast {xs : List Nat} (hl : xs.length < 281474976710656) : z50 xs.length xs = some (!xs.all leastB) := by
  obtain ⟨r, h1, h2⟩ := slices_IndexFunc_areLeast hl
  obtain ⟨g1, g2⟩ := zil h1
  unfold z50 z52
  rw [pF_all, g1, g2, h2]; rfl
theorem impl_areLeast_eq {xs : List Nat} (hl : xs.length < 281474976710656) : zcy xs.length xs = some (xs.all leastB) := by
  obtain ⟨g1, g2⟩ := zhl (slices_ContainsFunc_areLeast hl)
  unfold zcy zcq
  rw [pF_all, g1, g2]
  simp [grd_true, bnot]
theorem slices_IndexFunc_arePositive {xs : List Nat} (hl : xs.length < 281474976710656) : ∃ r : Int, z51 xs.length xs = some r ∧ leI 0 r = !xs.all posB := by
  unfold z51 z4z
  rcases scan_all (L := z1u xs.length (Int.ofNat xs.length) xs) xs posB (g := fun i => Int.ofNat i) (e := (Int.ofNat xs.length, false))
    (fun n i hi => by
      rw [z8z]; unfold z3t; rw [ltN_t hi, okIx_t hi, ix1, addI1 (by omega)]
      simp only [gF]
      generalize xs.getD i 0 = x
      obtain ⟨h1, h2⟩ := zlx (impl_arePositive_1_eq x)
      simp only [br_if, grd_true, h1, h2]
      rcases Bool.eq_false_or_eq_true (posB x) with h | h <;> simp [h])
    (fun n => by rw [z8z]; unfold z3t; rw [ltN_f (Nat.le_refl _)]; rfl) hl with ⟨h1, h2⟩ | ⟨j, h2, h3, h4⟩
  · obtain ⟨g1, g2, _⟩ := zeb rfl h2
    exact ⟨Int.negSucc 0, by rw [g1, g2]; rfl, by rw [h1]; rfl⟩
  · obtain ⟨g1, g2, g3⟩ := zec rfl h4
    exact ⟨Int.ofNat j, by rw [g1, g2, g3]; rfl, by rw [h3]; exact decide_eq_true (by simp)⟩
theorem slices_ContainsFunc_arePositive {xs : List Nat} (hl : xs.length < 281474976710656) : z4o xs.length xs = some (!xs.all posB) := by
  obtain ⟨r, h1, h2⟩ := slices_IndexFunc_arePositive hl
  obtain ⟨g1, g2⟩ := zh9 h1
  unfold z4o z4n
  rw [pF_all, g1, g2, h2]; rfl
theorem impl_arePositive_eq {xs : List Nat} (hl : xs.length < 281474976710656) : z94 xs.length xs = some (xs.all posB) := by
  obtain ⟨g1, g2⟩ := zf5 (slices_ContainsFunc_arePositive hl)
  unfold z94 za9
  rw [pF_all, g1, g2]
  simp [grd_true, bnot]
def fromToB (x low high : Nat) : Bool := fcmp .geq .f32 x low && fcmp .leq .f32 x high
theorem impl_isFromTo_eq (x low high : Nat) : zcp x low high = some (fromToB x low high) := by
  unfold zcp zcu fromToB
  rcases Bool.eq_false_or_eq_true (fcmp .geq .f32 x low) with h | h <;> simp [h, br_if]
theorem laws_szFloat32S_eq (n : Nat) (xs : List Nat) (left : Int) : ∃ r, zbt n xs left = some r ∧ (0 ≤ left → left ≤ 1048576 → n ≤ 9223372036854775807 → (0 ≤ r → r = left - n ∧ (n : Int) ≤ left) ∧ r ≤ 1048576) := by
  unfold zbt zbq
  by_cases h : subI .i64 left (Int.ofNat n) < 0
  · rw [ltI_t h]
    exact ⟨_, rfl, fun _ _ _ => ⟨fun q => by simp at q, by decide⟩⟩
  · rw [ltI_f h]
    refine ⟨_, rfl, fun h1 h2 h3 => ?_⟩
    have e : subI .i64 left (Int.ofNat n) = left - n := wrap64 (by simp; omega) (by simp; omega)
    rw [e] at h ⊢
    exact ⟨fun _ => ⟨rfl, by omega⟩, by omega⟩
theorem laws_toFloat32S_eq {xs : List Nat} (hl : xs.length ≤ 1099511627776) : z9d xs.length xs = some (xs.length, xs) := by
  have hf := folds (L := z5g xs.length xs.length xs) (len := xs.length) (fun i s => s.set i (xs.getD i 0)) (e := fun s => (Int.ofNat xs.length, false, s))
    (fun n i s hi => by rw [ziw]; unfold z6n; rw [ltN_t hi, okIx_t hi, ix1, addI1 (by omega)]; rfl)
    (fun n s => by rw [ziw]; unfold z6n; rw [ltN_f (Nat.le_refl _)]; rfl) xs.length 0 big (List.replicate xs.length 0) (by omega) (big_gt (by omega))
  rw [copy_fold xs _ _ _ (by omega) (by simp)] at hf
  simp only [List.take_zero, List.drop_zero, List.nil_append] at hf
  obtain ⟨g1, _, _, g2⟩ := zlq rfl hf
  have e : rF (muN (toN (Int.ofNat xs.length)) 1) = List.replicate xs.length 0 := by simp [rF, muN, toN]
  have ho : okMk (Int.ofNat xs.length) (Int.ofNat xs.length) 4 = true := decide_eq_true ⟨rfl, by simp, by simp; omega, by decide⟩
  unfold z9d zbv
  rw [e, ho, toN_nat]
  show grd (zbj xs.length xs.length xs (Int.ofNat 0) (List.replicate xs.length 0)) (some (_, z9c xs.length xs.length xs (Int.ofNat 0) (List.replicate xs.length 0))) = _
  rw [g1, g2]; rfl
theorem laws_eqFloat32S_refl {xs : List Nat} (hl : xs.length < 281474976710656) : zby xs.length xs xs.length xs = some true := by
  have hn : neI (Int.ofNat xs.length) (Int.ofNat xs.length) = false := by simp [neI]
  unfold zby zbz
  rw [hn]
  rcases scan_all (L := z5e xs.length xs.length xs xs) xs (fun _ => true) (g := fun i => ()) (e := (Int.ofNat xs.length, false))
    (fun n i hi => by
      obtain ⟨h1, h2⟩ := zbw (laws_sameFloat_refl (fcvV FloatKind.f32 FloatKind.f64 (gF xs i)))
      rw [zit]; unfold z6p; rw [ltN_t hi, okIx_t hi, ix1, addI1 (by omega), h1, h2]
      rfl)
    (fun n => by rw [zit]; unfold z6p; rw [ltN_f (Nat.le_refl _)]; rfl) hl with ⟨h1, h2⟩ | ⟨j, h2, h3, h4⟩
  · obtain ⟨g1, g2, _⟩ := zlm rfl h2
    rw [g1, g2]; rfl
  · simp at h3
theorem beqB_self (b : Bool) : beqB b b = true := by cases b <;> rfl
theorem neI_self (i : Int) : neI i i = false := by simp [neI]
theorem bnot_true : bnot true = false := rfl
theorem ltN (a b : Nat) : ltI (Int.ofNat a) (Int.ofNat b) = decide (a < b) := by by_cases h : a < b <;> simp [ltI, h] <;> omega
theorem get_mem {xs : List Nat} {i : Nat} (h : i < xs.length) : xs.getD i 0 ∈ xs := by
  rw [List.getD_eq_getElem?_getD, List.getElem?_eq_getElem h]; exact List.getElem_mem _
def inB (n low high : Int) : Bool := decide (low ≤ n) && decide (n ≤ high)
theorem spec_l00In_eq (n low high : Int) : zgy n low high = some (inB n low high) := by
  unfold zgy zgx inB leI
  cases decide (low ≤ n) <;> rfl
theorem impl_within_eq (n low high : Int) : zeu n low high = some (inB n low high) := by
  unfold zeu zet inB leI
  cases decide (low ≤ n) <;> rfl
theorem inB_le {n l h : Int} (e : inB n l h = true) : l ≤ n ∧ n ≤ h := by
  unfold inB at e
  rw [Bool.and_eq_true] at e
  exact ⟨of_decide_eq_true e.1, of_decide_eq_true e.2⟩
def marks (k0 : Int) (n : Nat) : List Nat := (List.range n).map fun (j : Nat) => fOI .f32 (k0 + (j : Int))
theorem marks_length (k0 : Int) (n : Nat) : (marks k0 n).length = n := by simp [marks]
theorem marks_get {k0 : Int} {n i : Nat} (h : i < n) : (marks k0 n).getD i 0 = fOI .f32 (k0 + (i : Int)) := by
  simp [marks, List.getD_eq_getElem?_getD, h]
theorem fOI_nan (k : FloatKind) (n : Int) : nanB k (fOI k n) = false := by
  rw [show fOI k n = floatOfInt k n from rfl, fOI_eq]
  exact nanB_word k _ (rnd_inf _ _ _)
theorem addI_in {a b : Int} (h1 : -9223372036854775808 ≤ a + b) (h2 : a + b ≤ 9223372036854775807) : addI .i64 a b = a + b := wrap64 h1 h2
theorem mark_loop {L : Nat → Int → Int → List Nat → Option (Int × Int × Bool × List Nat)} {len : Nat} {k0 : Int} {ys : List Nat} (hy : ys.length = len) (hk : 0 ≤ k0) (hk2 : k0 ≤ 1099511627776) (hl : len < 281474976710656)
    (hs : ∀ n k i b, L (n + 1) k i b = br (ltI i (Int.ofNat len)) (grd (okIx i len) (L n (addI .i64 k 1) (addI .i64 i 1) (sF b (ixO 0 i 1) (fOI .f32 k)))) (some (k, i, ltI i (Int.ofNat len), b))) :
    L big k0 0 ys = some (k0 + (len : Int), Int.ofNat len, false, marks k0 len) := by
  have hf := folds (L := fun n i s => L n (k0 + i) i s) (len := len) (fun i s => s.set i ((marks k0 len).getD i 0)) (e := fun s => (k0 + (len : Int), Int.ofNat len, false, s))
    (fun n i s hi => by
      show L _ _ _ _ = L _ _ _ _
      rw [hs, ltN_t hi, okIx_t hi, ix1, addI1 (by omega), addI_in (by simp; omega) (by simp; omega), marks_get hi]
      have : k0 + Int.ofNat i + 1 = k0 + Int.ofNat (i + 1) := by simp; omega
      rw [this]; rfl)
    (fun n s => by show L _ _ _ _ = _; rw [hs, ltN_f (Nat.le_refl _)]; rfl) len 0 big ys (by omega) (big_gt hl)
  have hm := copy_fold (marks k0 len) len 0 ys (by simp [marks_length]) (by rw [marks_length, hy])
  rw [hm] at hf
  simpa using hf
theorem laws_heldFloat32S_eq {k0 : Int} {n : Nat} (hk : 0 ≤ k0) (hk2 : k0 ≤ 1099511627776) (hl : n < 281474976710656) : z9i n (marks k0 n) k0 = some (k0 + (n : Int)) := by
  unfold z9i z9o
  rcases scan (L := fun m i => z46 n (marks k0 n) m (k0 + i) i) (len := n) (fun _ => true) (g := fun _ => ()) (e := (k0 + (n : Int), Int.ofNat n, false))
    (fun m i hi => by
      show z46 _ _ _ _ _ = _
      rw [zi1]; unfold z5z
      rw [ltN_t hi, okIx_t hi, ix1, addI1 (by omega), addI_in (by simp; omega) (by simp; omega)]
      have e : fcmp .neq .f32 (gF (marks k0 n) i) (fOI .f32 (k0 + Int.ofNat i)) = false := by
        show fcmp .neq .f32 ((marks k0 n).getD i 0) _ = false
        rw [marks_get hi]
        show fcmp .neq .f32 (fOI .f32 (k0 + Int.ofNat i)) (fOI .f32 (k0 + Int.ofNat i)) = false
        rw [neq_self, fOI_nan]
      have : k0 + Int.ofNat i + 1 = k0 + Int.ofNat (i + 1) := by simp; omega
      rw [e, this]; rfl)
    (fun m => by show z46 _ _ _ _ _ = _; rw [zi1]; unfold z5z; rw [ltN_f (Nat.le_refl _)]; rfl) n 0 big (by omega) (big_gt hl) with ⟨k1, k2⟩ | ⟨j, k1, k2, k3, k4⟩
  · have k2 : z46 n (marks k0 n) big k0 0 = some (Sum.inr (k0 + (n : Int), Int.ofNat n, false)) := by simpa using k2
    obtain ⟨g1, g2, g3, _⟩ := zkn rfl k2
    rw [g1, g2, g3]; rfl
  · cases k3
theorem take_succ_getD {ys : List Nat} {i : Nat} (h : i < ys.length) : ys.take i ++ [ys.getD i 0] = ys.take (i + 1) := by
  rw [List.take_succ_eq_append_getElem h]; simp [List.getD_eq_getElem?_getD, h]
theorem runs {ρ : Type} {L : Nat → Int → Option ρ} {len : Nat} {e : ρ} (hs : ∀ n i, i < len → L (n + 1) (Int.ofNat i) = L n (Int.ofNat (i + 1))) (he : ∀ n, L (n + 1) (Int.ofNat len) = some e) (hl : len < 281474976710656) : L big 0 = some e := by
  have := folds (L := fun n i (_ : Unit) => L n i) (len := len) (fun _ _ => ()) (e := fun _ => e) (fun n i _ hi => hs n i hi) (fun n _ => he n) len 0 big () (by omega) (big_gt hl)
  exact this
theorem impl_areFinite_1_eq (x : Nat) : zab x = some (!finB x) := by
  obtain ⟨h1, h2⟩ := zdu (impl_IsFinite_eq x)
  unfold zab zaa
  rw [h1, h2]; rfl
theorem slices_IndexFunc_areFinite {xs : List Nat} (hl : xs.length < 281474976710656) : ∃ r : Int, z59 xs.length xs = some r ∧ leI 0 r = !xs.all finB := by
  unfold z59 z58
  rcases scan_all (L := z1z xs.length (Int.ofNat xs.length) xs) xs finB (g := fun i => Int.ofNat i) (e := (Int.ofNat xs.length, false))
    (fun n i hi => by
      rw [z96]; unfold z3z; rw [ltN_t hi, okIx_t hi, ix1, addI1 (by omega)]
      simp only [gF]
      generalize xs.getD i 0 = x
      obtain ⟨h1, h2⟩ := znk (impl_areFinite_1_eq x)
      simp only [br_if, grd_true, h1, h2]
      rcases Bool.eq_false_or_eq_true (finB x) with h | h <;> simp [h])
    (fun n => by rw [z96]; unfold z3z; rw [ltN_f (Nat.le_refl _)]; rfl) hl with ⟨h1, h2⟩ | ⟨j, h2, h3, h4⟩
  · obtain ⟨g1, g2, _⟩ := zfr rfl h2
    exact ⟨Int.negSucc 0, by rw [g1, g2]; rfl, by rw [h1]; rfl⟩
  · obtain ⟨g1, g2, g3⟩ := zfv rfl h4
    exact ⟨Int.ofNat j, by rw [g1, g2, g3]; rfl, by rw [h3]; exact decide_eq_true (by simp)⟩
theorem slices_ContainsFunc_areFinite {xs : List Nat} (hl : xs.length < 281474976710656) : z4t xs.length xs = some (!xs.all finB) := by
  obtain ⟨r, h1, h2⟩ := slices_IndexFunc_areFinite hl
  obtain ⟨g1, g2⟩ := zi7 h1
  unfold z4t z4v
  rw [pF_all, g1, g2, h2]; rfl
theorem impl_areFinite_eq {xs : List Nat} (hl : xs.length < 281474976710656) : zcg xs.length xs = some (xs.all finB) := by
  obtain ⟨g1, g2⟩ := zg6 (slices_ContainsFunc_areFinite hl)
  unfold zcg zc6
  rw [pF_all, g1, g2]
  simp [grd_true, bnot]
def walkS {σ α β : Type} (p : Nat → σ → Bool) (f : Nat → σ → σ) (g : Nat → σ → α) (e : σ → β) : Nat → Nat → σ → α ⊕ β
  | 0, _, s => .inr (e s)
  | k + 1, i, s => if p i s = true then walkS p f g e k (i + 1) (f i s) else .inl (g i s)
theorem walks {σ α β : Type} {L : Nat → Int → σ → Option (α ⊕ β)} {len : Nat} (p : Nat → σ → Bool) (f : Nat → σ → σ) {g : Nat → σ → α} {e : σ → β}
    (hs : ∀ n i s, i < len → L (n + 1) (Int.ofNat i) s = if p i s = true then L n (Int.ofNat (i + 1)) (f i s) else some (.inl (g i s))) (he : ∀ n s, L (n + 1) (Int.ofNat len) s = some (.inr (e s))) :
    ∀ k i n s, i + k = len → k < n → L n (Int.ofNat i) s = some (walkS p f g e k i s)
  | 0, i, n, s, hk, hn => by
    obtain ⟨n, rfl⟩ : ∃ m, n = m + 1 := ⟨n - 1, by omega⟩
    obtain rfl : i = len := by omega
    exact he n s
  | k + 1, i, n, s, hk, hn => by
    obtain ⟨n, rfl⟩ : ∃ m, n = m + 1 := ⟨n - 1, by omega⟩
    rw [hs n i s (by omega)]
    unfold walkS
    cases p i s
    · simp
    · simp only [if_true]
      exact walks p f hs he k (i + 1) n (f i s) (by omega) (by omega)
theorem walkS_map {σ α β γ : Type} {p : Nat → σ → Bool} {f : Nat → σ → σ} {g : Nat → σ → α} {e : σ → β} : ∀ (k i : Nat) (s : σ), walkS p f g e k i s = (walkS p f g id k i s).map id e
  | 0, i, s => rfl
  | k + 1, i, s => by
    unfold walkS
    by_cases h : p i s = true
    · rw [if_pos h, if_pos h]; exact walkS_map (γ := γ) k (i + 1) (f i s)
    · rw [if_neg h, if_neg h]; rfl
theorem ix3 (i : Nat) : ixO 0 (Int.ofNat i) 3 = i * 3 := by simp [ixO]
theorem put1 {xs zs : List Nat} (hz : zs.length = xs.length) {j : Nat} (h : j < xs.length) : (xs.take j ++ zs.drop j).set j (xs.getD j 0) = xs.take (j + 1) ++ zs.drop (j + 1) := by
  have h1 : (xs.take j).length = j := by simp; omega
  have h2 : zs.drop j = zs[j] :: zs.drop (j + 1) := List.drop_eq_getElem_cons (by omega)
  rw [← take_succ_getD h, h2, List.set_append_right j _ (by omega), h1, Nat.sub_self, List.set_cons_zero, List.append_assoc]
  rfl
theorem put3 {xs zs : List Nat} {n i : Nat} (hx : xs.length = n * 3) (hz : zs.length = xs.length) (h : i < n) :
    ((((xs.take (i * 3) ++ zs.drop (i * 3)).set (i * 3) (xs.getD (i * 3) 0)).set (i * 3).succ (xs.getD (i * 3).succ 0)).set (i * 3).succ.succ (xs.getD (i * 3).succ.succ 0)) = xs.take ((i + 1) * 3) ++ zs.drop ((i + 1) * 3) := by
  rw [put1 hz (by omega), put1 hz (j := (i * 3).succ) (by omega), put1 hz (j := (i * 3).succ.succ) (by omega)]
  simp only [Nat.succ_eq_add_one, Nat.add_mul, Nat.one_mul]
theorem laws_eqStation_refl (a b c : Nat) : zch a b c a b c = some true := by
  obtain ⟨p1, q1⟩ := zbw (laws_sameFloat_refl (fcvV .f32 .f64 a))
  obtain ⟨p2, q2⟩ := zbw (laws_sameFloat_refl (fcvV .f32 .f64 b))
  obtain ⟨p3, q3⟩ := zbw (laws_sameFloat_refl (fcvV .f32 .f64 c))
  unfold zch zca
  rw [p1, q1, p2, q2, p3, q3]; rfl
theorem laws_eqStationS_refl {xs : List Nat} {n : Nat} (hl : n < 281474976710656) : zbl n xs n xs = some true := by
  unfold zbl zbs
  rw [neI_self]
  rcases scan (L := z5f n n xs xs) (len := n) (fun _ => true) (g := fun i => ()) (e := (Int.ofNat n, false))
    (fun m i hi => by
      rw [ziq]; unfold z6r
      obtain ⟨h1, h2⟩ := zo8 (laws_eqStation_refl (gF xs (ixO 0 (Int.ofNat i) 3)) (gF xs (Nat.succ (ixO 0 (Int.ofNat i) 3))) (gF xs (Nat.succ (Nat.succ (ixO 0 (Int.ofNat i) 3)))))
      rw [ltN_t hi, okIx_t hi, addI1 (by omega), h1, h2]; rfl)
    (fun m => by rw [ziq]; unfold z6r; rw [ltN_f (Nat.le_refl _)]; rfl) n 0 big (by omega) (big_gt hl) with ⟨h1, h2⟩ | ⟨j, _, h2, h3, h4⟩
  · obtain ⟨g1, g2, _⟩ := zlo rfl h2
    show grd (zbh n n xs xs (Int.ofNat 0)) (br (za6 n n xs xs (Int.ofNat 0)) _ _) = _
    rw [g1, g2]; rfl
  · cases h3
theorem laws_szProfile_eq {as ls ds : List Nat} {left : Int} (ha : as.length ≤ maxLen) (hl : ls.length ≤ maxLen) (hd : ds.length ≤ maxLen) (h0 : 0 ≤ left) (h1 : left ≤ 1048576) :
    ∃ r, zcc as.length as ls.length ls ds.length ds left = some r ∧ (0 ≤ r → as.length + ls.length + ds.length ≤ 1048576) ∧ r ≤ 1048576 := by
  have hm : maxLen = 9223372036854775807 := by decide
  rw [hm] at ha hl hd
  obtain ⟨r1, h2, k1⟩ := laws_szFloat32S_eq as.length as left
  obtain ⟨p1, q1⟩ := zj7 h2
  obtain ⟨k1, k1'⟩ := k1 h0 h1 ha
  obtain ⟨r2, h3, k2⟩ := laws_szFloat32S_eq ls.length ls r1
  obtain ⟨p2, q2⟩ := zj7 h3
  obtain ⟨r3, h4, k3⟩ := laws_szFloat32S_eq ds.length ds r2
  obtain ⟨p3, q3⟩ := zj7 h4
  unfold zcc zcd
  simp only [pF_all, p1, q1, grd_true, p2, q2, p3, q3]
  by_cases c1 : r1 < 0
  · rw [ltI_t c1]
    exact ⟨_, rfl, fun h => by simp at h, by decide⟩
  · rw [ltI_f c1]
    obtain ⟨e1, e2⟩ := k1 (by omega)
    obtain ⟨k2, k2'⟩ := k2 (by omega) (by omega) hl
    by_cases c2 : r2 < 0
    · rw [ltI_t c2]
      exact ⟨_, rfl, fun h => by simp at h, by decide⟩
    · rw [ltI_f c2]
      obtain ⟨e3, e4⟩ := k2 (by omega)
      obtain ⟨k3, k3'⟩ := k3 (by omega) (by omega) hd
      by_cases c3 : r3 < 0
      · rw [ltI_t c3]
        exact ⟨_, rfl, fun h => by simp at h, by decide⟩
      · rw [ltI_f c3]
        obtain ⟨e5, e6⟩ := k3 (by omega)
        exact ⟨_, rfl, fun h => by omega, by omega⟩
theorem laws_toProfile_eq {as ls ds : List Nat} (ha : as.length ≤ 1099511627776) (hl : ls.length ≤ 1099511627776) (hd : ds.length ≤ 1099511627776) : z70 as.length as ls.length ls ds.length ds = some (as.length, ls.length, ds.length, as, ls, ds) := by
  obtain ⟨p1, q1, r1⟩ := ziz (laws_toFloat32S_eq ha)
  obtain ⟨p2, q2, r2⟩ := ziz (laws_toFloat32S_eq hl)
  obtain ⟨p3, q3, r3⟩ := ziz (laws_toFloat32S_eq hd)
  unfold z70 zck
  simp only [pF_all, p1, q1, r1, p2, q2, r2, p3, q3, r3, grd_true]
theorem laws_eqProfile_refl {as ls ds : List Nat} (ha : as.length < 281474976710656) (hl : ls.length < 281474976710656) (hd : ds.length < 281474976710656) : zc9 as.length as ls.length ls ds.length ds as.length as ls.length ls ds.length ds = some true := by
  obtain ⟨p1, q1⟩ := zj2 (laws_eqFloat32S_refl ha)
  obtain ⟨p2, q2⟩ := zj2 (laws_eqFloat32S_refl hl)
  obtain ⟨p3, q3⟩ := zj2 (laws_eqFloat32S_refl hd)
  unfold zc9 zcj
  simp only [pF_all, p1, q1, p2, q2, p3, q3, grd_true]
  rfl
def knotB (as : List Nat) (j : Nat) : Bool := fromToB (as.getD j 0) 3204448256 1056964608 && (decide (j = 0) || !fcmp .leq .f32 (as.getD j 0) (as.getD (j - 1) 0))
def profB (as ls ds : List Nat) (j : Nat) : Bool := knotB as j && (finB (ls.getD j 0) && leastB (ds.getD j 0))
def validProfB (as ls ds : List Nat) : Bool := decide (2 ≤ as.length) && (decide (as.length ≤ 24) && (decide (ls.length = as.length) && (decide (ds.length = as.length) && (List.range as.length).all (profB as ls ds))))
theorem range_all {n : Nat} {p : Nat → Bool} : (List.range n).all p = true ↔ ∀ j, j < n → p j = true := by simp [List.all_eq_true]
theorem geq_leq {x y : Nat} : fcmp .geq .f32 x y = fcmp .leq .f32 y x := by
  cases hx : nanB .f32 x with
  | true => rw [(fcmp_nan .f32 (.inl hx)).2.2.2.2.2, (fcmp_nan .f32 (.inr hx)).2.2.2.1]
  | false =>
    cases hy : nanB .f32 y with
    | true => rw [(fcmp_nan .f32 (.inr hy)).2.2.2.2.2, (fcmp_nan .f32 (.inl hy)).2.2.2.1]
    | false => rw [(fcmp_num .f32 hx hy).2.2.2.2.2, (fcmp_num .f32 hy hx).2.2.2.1]
theorem ltN0 (i : Nat) : ltI 0 (Int.ofNat i) = !decide (i = 0) := by
  rw [show ltI 0 (Int.ofNat i) = decide (0 < i) from ltN 0 i]
  by_cases h : i = 0
  · rw [decide_eq_true h, decide_eq_false (by omega)]; rfl
  · rw [decide_eq_false h, decide_eq_true (by omega)]; rfl
theorem subN1 {i : Nat} (h : i ≠ 0) (h2 : i < 4611686018427387904) : subI .i64 (Int.ofNat i) 1 = Int.ofNat (i - 1) := by
  have : subI .i64 (Int.ofNat i) 1 = (i : Int) - 1 := wrap64 (by simp; omega) (by simp; omega)
  rw [this]; simp; omega
theorem impl_ValidProfile_loop {as : List Nat} (hl : as.length ≤ 24) :
    z7n as.length (Int.ofNat as.length) as as.length 0 = true ∧ z77 as.length (Int.ofNat as.length) as as.length 0 = !(List.range as.length).all (knotB as) := by
  rcases scan (L := z4q as.length (Int.ofNat as.length) as as.length) (len := as.length) (knotB as) (g := fun _ => ()) (e := (Int.ofNat as.length, false))
    (fun n i hi => by
      rw [zi2]; unfold z5v
      obtain ⟨p1, q1⟩ := zop (impl_isFromTo_eq (as.getD i 0) 3204448256 1056964608)
      rw [ltN_t hi, okIx_t hi, ix1, addI1 (by omega), ltN0]
      simp only [gF, p1, q1, grd_true, br_true]
      unfold knotB
      by_cases h0 : i = 0
      · subst h0
        cases fromToB (as.getD 0 0) 3204448256 1056964608 <;> rfl
      · rw [subN1 h0 (by omega), okIx_t (show i - 1 < as.length by omega), ix1, geq_leq, decide_eq_false h0]
        cases fromToB (as.getD i 0) 3204448256 1056964608
        · rfl
        · cases fcmp .leq .f32 (as.getD i 0) (as.getD (i - 1) 0) <;> rfl)
    (fun n => by rw [zi2]; unfold z5v; rw [ltN_f (Nat.le_refl _)]; rfl) as.length 0 big (by omega) (big_gt (by omega)) with ⟨h1, h2⟩ | ⟨j, _, h2, h3, h4⟩
  · obtain ⟨g1, g2, _⟩ := zkg rfl h2
    rw [range_all.2 fun j hj => h1 j (Nat.zero_le _) hj]
    exact ⟨g1, g2⟩
  · obtain ⟨g1, g2⟩ := zkm rfl h4
    have : (List.range as.length).all (knotB as) = false := by
      cases hh : (List.range as.length).all (knotB as) with
      | false => rfl
      | true => rw [range_all.1 hh j h2] at h3; cases h3
    rw [this]
    exact ⟨g1, g2⟩
theorem all_getD {xs : List Nat} {p : Nat → Bool} : xs.all p = true ↔ ∀ j, j < xs.length → p (xs.getD j 0) = true := by
  rw [List.all_eq_true]
  constructor
  · intro h j hj; exact h _ (get_mem hj)
  · intro h x hx
    obtain ⟨i, hi, rfl⟩ := List.getElem_of_mem hx
    have := h i hi
    simpa [List.getD_eq_getElem?_getD, hi] using this
theorem ltN2 (n : Nat) : ltI (Int.ofNat n) 2 = !decide (2 ≤ n) := by
  rw [show ltI (Int.ofNat n) 2 = decide (n < 2) from ltN n 2]
  by_cases h : 2 ≤ n
  · rw [decide_eq_true h, decide_eq_false (by omega)]; rfl
  · rw [decide_eq_false h, decide_eq_true (by omega)]; rfl
theorem gtN (c n : Nat) : ltI (Int.ofNat c) (Int.ofNat n) = !decide (n ≤ c) := by
  rw [ltN]
  by_cases h : n ≤ c
  · rw [decide_eq_true h, decide_eq_false (by omega)]; rfl
  · rw [decide_eq_false h, decide_eq_true (by omega)]; rfl
theorem neN (m n : Nat) : neI (Int.ofNat m) (Int.ofNat n) = !decide (m = n) := by
  unfold neI
  by_cases h : m = n
  · subst h; simp
  · rw [decide_eq_false h]; simp; omega
theorem impl_ValidProfile_eq {as ls ds : List Nat} (hl : ls.length < 281474976710656) (hd : ds.length < 281474976710656) : z9q as.length as ls.length ls ds.length ds = some (validProfB as ls ds) := by
  obtain ⟨p1, q1⟩ := zo9 (impl_areFinite_eq hl)
  obtain ⟨p2, q2⟩ := zp0 (impl_areLeast_eq hd)
  unfold z9q z9m validProfB
  rw [ltN2, show ltI 24 (Int.ofNat as.length) = !decide (as.length ≤ 24) from gtN 24 _, neN, neN]
  simp only [pF_all, p1, q1, p2, q2, grd_true]
  by_cases c1 : 2 ≤ as.length
  · by_cases c2 : as.length ≤ 24
    · by_cases c3 : ls.length = as.length
      · by_cases c4 : ds.length = as.length
        · obtain ⟨g1, g2⟩ := impl_ValidProfile_loop c2
          rw [decide_eq_true c1, decide_eq_true c2, decide_eq_true c3, decide_eq_true c4, g1, g2]
          have key : (List.range as.length).all (profB as ls ds) = (ls.all finB && (ds.all leastB && (List.range as.length).all (knotB as))) := by
            rw [Bool.eq_iff_iff, Bool.and_eq_true, Bool.and_eq_true, range_all, range_all, all_getD, all_getD, c3, c4]
            constructor
            · intro h
              refine ⟨fun j hj => ?_, fun j hj => ?_, fun j hj => ?_⟩
              all_goals have := h j hj; unfold profB at this; simp only [Bool.and_eq_true] at this
              · exact this.2.1
              · exact this.2.2
              · exact this.1
            · rintro ⟨h1, h2, h3⟩ j hj
              unfold profB
              rw [h1 j hj, h2 j hj, h3 j hj]; rfl
          rw [key]
          cases ls.all finB <;> cases ds.all leastB <;> cases (List.range as.length).all (knotB as) <;> rfl
        · rw [decide_eq_false c4]
          rw [decide_eq_true c1, decide_eq_true c2, decide_eq_true c3]; rfl
      · rw [decide_eq_false c3]
        rw [decide_eq_true c1, decide_eq_true c2]; rfl
    · rw [decide_eq_false c2]
      rw [decide_eq_true c1]; rfl
  · rw [decide_eq_false c1]; rfl
theorem spec_l02Is_eq {as ls ds : List Nat} : zhm as.length as ls.length ls ds.length ds = some (validProfB as ls ds) := by
  unfold zhm zhe validProfB
  rw [ltN2, show ltI 24 (Int.ofNat as.length) = !decide (as.length ≤ 24) from gtN 24 _, neN, neN]
  by_cases c1 : 2 ≤ as.length
  · by_cases c2 : as.length ≤ 24
    · by_cases c3 : ls.length = as.length
      · by_cases c4 : ds.length = as.length
        · rw [decide_eq_true c1, decide_eq_true c2, decide_eq_true c3, decide_eq_true c4]
          rcases scan (L := z6a (Int.ofNat as.length) as ls ds as.length ls.length ds.length) (len := as.length) (profB as ls ds) (g := fun _ => ()) (e := (Int.ofNat as.length, false))
            (fun n i hi => by
              rw [zjp]; unfold z8m
              obtain ⟨p1, q1⟩ := zcz (spec_l01Finite_eq (ls.getD i 0))
              obtain ⟨p2, q2⟩ := zkf (spec_l02Least_eq (ds.getD i 0))
              rw [ltN_t hi, okIx_t hi, ix1, addI1 (by omega), ltN0, okIx_t (show i < ls.length by omega), okIx_t (show i < ds.length by omega)]
              simp only [gF, p1, q1, p2, q2, grd_true, br_true]
              unfold profB knotB fromToB
              by_cases h0 : i = 0
              · subst h0
                cases fcmp .geq .f32 (as.getD 0 0) 3204448256 <;> cases fcmp .leq .f32 (as.getD 0 0) 1056964608 <;> cases finB (ls.getD 0 0) <;> cases leastB (ds.getD 0 0) <;> rfl
              · rw [subN1 h0 (by omega), okIx_t (show i - 1 < as.length by omega), ix1, decide_eq_false h0]
                cases fcmp .geq .f32 (as.getD i 0) 3204448256 <;> cases fcmp .leq .f32 (as.getD i 0) 1056964608 <;> cases fcmp .leq .f32 (as.getD i 0) (as.getD (i - 1) 0) <;> cases finB (ls.getD i 0) <;> cases leastB (ds.getD i 0) <;> rfl)
            (fun n => by rw [zjp]; unfold z8m; rw [ltN_f (Nat.le_refl _)]; rfl) as.length 0 big (by omega) (big_gt (by omega)) with ⟨h1, h2⟩ | ⟨j, _, h2, h3, h4⟩
          · obtain ⟨g1, g2, _⟩ := zoa rfl h2
            rw [range_all.2 fun j hj => h1 j (Nat.zero_le _) hj]
            show grd (z9f (Int.ofNat as.length) as ls ds as.length ls.length ds.length (Int.ofNat 0)) (br (z91 (Int.ofNat as.length) as ls ds as.length ls.length ds.length (Int.ofNat 0)) _ _) = _
            rw [g1, g2]; rfl
          · obtain ⟨g1, g2⟩ := zo5 rfl h4
            have : (List.range as.length).all (profB as ls ds) = false := by
              cases hh : (List.range as.length).all (profB as ls ds) with
              | false => rfl
              | true => rw [range_all.1 hh j h2] at h3; cases h3
            rw [this]
            show grd (z9f (Int.ofNat as.length) as ls ds as.length ls.length ds.length (Int.ofNat 0)) (br (z91 (Int.ofNat as.length) as ls ds as.length ls.length ds.length (Int.ofNat 0)) _ _) = _
            rw [g1, g2]; rfl
        · rw [decide_eq_false c4]
          rw [decide_eq_true c1, decide_eq_true c2, decide_eq_true c3]; rfl
      · rw [decide_eq_false c3]
        rw [decide_eq_true c1, decide_eq_true c2]; rfl
    · rw [decide_eq_false c2]
      rw [decide_eq_true c1]; rfl
  · rw [decide_eq_false c1]; rfl
def ringP (st : List Nat) (tip : Nat) (i s : Nat) : Bool := fcmp .gtr .f32 (st.getD (i * 3) 0) s && (fcmp .lss .f32 (st.getD (i * 3) 0) tip && (posB (st.getD (i * 3).succ 0) && finB (st.getD (i * 3).succ.succ 0)))
def ringsW (st : List Nat) (n hub tip : Nat) : Unit ⊕ Nat := walkS (ringP st tip) (fun i _ => st.getD (i * 3) 0) (fun _ _ => ()) id n 0 hub
def validRotorB (as ls ds st : List Nat) (n : Nat) (count : Int) (hub tip : Nat) : Bool :=
  validProfB as ls ds && (inB count 1 6 && (decide (2 ≤ n) && (decide (n ≤ 12) && (leastB hub && (finB tip && (ringsW st n hub tip).isRight)))))
theorem impl_ValidRotor_loop {st : List Nat} {n hub tip : Nat} (hl : n ≤ 12) : z8g n (Int.ofNat n) st tip hub 0 = true ∧ z86 n (Int.ofNat n) st tip hub 0 = !(ringsW st n hub tip).isRight := by
  have hf := walks (L := fun m i s => z49 n (Int.ofNat n) st tip m s i) (len := n) (ringP st tip) (fun i _ => st.getD (i * 3) 0) (g := fun _ _ => ()) (e := fun s => (s, Int.ofNat n, false))
    (fun m i s hi => by
      show z49 _ _ _ _ _ _ _ = if _ then z49 _ _ _ _ _ _ _ else _
      rw [zix]; unfold z6s
      obtain ⟨p1, q1⟩ := zna (show z94 1 (pF [st.getD (i * 3).succ 0] 0 (muN 1 1)) = some (posB (st.getD (i * 3).succ 0)) by
        have := impl_arePositive_eq (xs := [st.getD (i * 3).succ 0]) (by simp)
        simpa [pF, muN] using this)
      obtain ⟨p2, q2⟩ := zdu (impl_IsFinite_eq (st.getD (i * 3).succ.succ 0))
      rw [ltN_t hi, okIx_t hi, ix3, addI1 (by omega)]
      simp only [gF, p1, q1, p2, q2, grd_true, br_true]
      unfold ringP
      cases fcmp .gtr .f32 (st.getD (i * 3) 0) s <;> cases fcmp .lss .f32 (st.getD (i * 3) 0) tip <;> cases posB (st.getD (i * 3).succ 0) <;> cases finB (st.getD (i * 3).succ.succ 0) <;> rfl)
    (fun m s => by show z49 _ _ _ _ _ _ _ = _; rw [zix]; unfold z6s; rw [ltN_f (Nat.le_refl _)]; rfl) n 0 big hub (by omega) (big_gt (by omega))
  rw [walkS_map (γ := Unit)] at hf
  have hw : ringsW st n hub tip = walkS (ringP st tip) (fun i _ => st.getD (i * 3) 0) (fun _ _ => ()) id n 0 hub := rfl
  rw [← hw] at hf
  cases hc : ringsW st n hub tip with
  | inl u => rw [hc] at hf; obtain ⟨g1, g2⟩ := zlr rfl hf; exact ⟨g1, g2⟩
  | inr s => rw [hc] at hf; obtain ⟨g1, g2, _⟩ := zlf rfl hf; exact ⟨g1, g2⟩
theorem spec_l03Is_loop {st : List Nat} {n hub tip : Nat} (hl : n ≤ 12) : zbg (Int.ofNat n) st n tip hub 0 = true ∧ za3 (Int.ofNat n) st n tip hub 0 = !(ringsW st n hub tip).isRight := by
  have hf := walks (L := fun m i s => z5a (Int.ofNat n) st n tip m s i) (len := n) (ringP st tip) (fun i _ => st.getD (i * 3) 0) (g := fun _ _ => ()) (e := fun s => (s, Int.ofNat n, false))
    (fun m i s hi => by
      show z5a _ _ _ _ _ _ _ = if _ then z5a _ _ _ _ _ _ _ else _
      rw [zjn]; unfold z8v
      obtain ⟨p1, q1⟩ := zot (spec_l02Above_eq (st.getD (i * 3).succ 0))
      obtain ⟨p2, q2⟩ := zcz (spec_l01Finite_eq (st.getD (i * 3).succ.succ 0))
      rw [ltN_t hi, okIx_t hi, ix3, addI1 (by omega)]
      simp only [gF, p1, q1, p2, q2, grd_true, br_true]
      unfold ringP
      cases fcmp .gtr .f32 (st.getD (i * 3) 0) s <;> cases fcmp .lss .f32 (st.getD (i * 3) 0) tip <;> cases posB (st.getD (i * 3).succ 0) <;> cases finB (st.getD (i * 3).succ.succ 0) <;> rfl)
    (fun m s => by show z5a _ _ _ _ _ _ _ = _; rw [zjn]; unfold z8v; rw [ltN_f (Nat.le_refl _)]; rfl) n 0 big hub (by omega) (big_gt (by omega))
  rw [walkS_map (γ := Unit)] at hf
  have hw : ringsW st n hub tip = walkS (ringP st tip) (fun i _ => st.getD (i * 3) 0) (fun _ _ => ()) id n 0 hub := rfl
  rw [← hw] at hf
  cases hc : ringsW st n hub tip with
  | inl u => rw [hc] at hf; obtain ⟨g1, g2⟩ := zod rfl hf; exact ⟨g1, g2⟩
  | inr s => rw [hc] at hf; obtain ⟨g1, g2, _⟩ := zoi rfl hf; exact ⟨g1, g2⟩
theorem impl_ValidRotor_eq {as ls ds st : List Nat} {n : Nat} {count : Int} {hub tip : Nat} (hl : ls.length < 281474976710656) (hd : ds.length < 281474976710656) :
    zbp as.length as ls.length ls ds.length ds n st count hub tip = some (validRotorB as ls ds st n count hub tip) := by
  obtain ⟨p1, q1⟩ := zn2 (impl_ValidProfile_eq (as := as) hl hd)
  obtain ⟨p2, q2⟩ := zm5 (impl_within_eq count 1 6)
  obtain ⟨p3, q3⟩ := zlb (impl_isLeast_eq hub)
  obtain ⟨p4, q4⟩ := zdu (impl_IsFinite_eq tip)
  unfold zbp zbr validRotorB
  rw [ltN2, show ltI 12 (Int.ofNat n) = !decide (n ≤ 12) from gtN 12 _]
  simp only [pF_all, p1, q1, p2, q2, p3, q3, p4, q4, grd_true]
  by_cases c2 : n ≤ 12
  · obtain ⟨g1, g2⟩ := impl_ValidRotor_loop (st := st) (hub := hub) (tip := tip) c2
    rw [g1, g2, decide_eq_true c2]
    cases validProfB as ls ds <;> cases inB count 1 6 <;> cases decide (2 ≤ n) <;> cases leastB hub <;> cases finB tip <;> cases (ringsW st n hub tip).isRight <;> rfl
  · rw [decide_eq_false c2]
    cases validProfB as ls ds <;> cases inB count 1 6 <;> cases decide (2 ≤ n) <;> rfl
theorem spec_l03Is_eq {as ls ds st : List Nat} {n : Nat} {count : Int} {hub tip : Nat} :
    zhn as.length as ls.length ls ds.length ds n st count hub tip = some (validRotorB as ls ds st n count hub tip) := by
  obtain ⟨p1, q1⟩ := zn3 (spec_l02Is_eq (as := as) (ls := ls) (ds := ds))
  obtain ⟨p2, q2⟩ := zn6 (spec_l00In_eq count 1 6)
  obtain ⟨p3, q3⟩ := zkf (spec_l02Least_eq hub)
  obtain ⟨p4, q4⟩ := zcz (spec_l01Finite_eq tip)
  unfold zhn zhs validRotorB
  rw [ltN2, show ltI 12 (Int.ofNat n) = !decide (n ≤ 12) from gtN 12 _]
  simp only [pF_all, p1, q1, p2, q2, p3, q3, p4, q4, grd_true]
  by_cases c2 : n ≤ 12
  · obtain ⟨g1, g2⟩ := spec_l03Is_loop (st := st) (hub := hub) (tip := tip) c2
    rw [g1, g2, decide_eq_true c2]
    cases validProfB as ls ds <;> cases inB count 1 6 <;> cases decide (2 ≤ n) <;> cases leastB hub <;> cases finB tip <;> cases (ringsW st n hub tip).isRight <;> rfl
  · rw [decide_eq_false c2]
    cases validProfB as ls ds <;> cases inB count 1 6 <;> cases decide (2 ≤ n) <;> rfl
theorem marks_pF (k0 : Int) (m : Nat) : pF (marks k0 m) 0 (muN m 1) = marks k0 m := by
  have := pF_all (marks k0 m); rw [marks_length] at this; exact this
theorem unk_same {R : Type} {c : Bool} {x y : Option R} (h : c = true → x = y) : unk c x y = y := by
  unfold unk
  cases c
  · rfl
  · rw [h rfl]; simp
theorem slices_Clone_eq {xs : List Nat} (hl : xs.length ≤ 1099511627776) : z78 xs.length xs = some (xs.length, xs) := by
  have ho : okA2 0 xs.length 4 (nF xs) (nF []) 1 = true := decide_eq_true ⟨by omega, by omega, by simp [nF], by simp [nF]⟩
  unfold z78 z8a
  rw [pF_all, ho, unk_same]
  · show some (0 + xs.length, xs) = _
    rw [Nat.zero_add]
  · intro h
    have h0 : xs.length = 0 := of_decide_eq_true h
    obtain rfl := List.eq_nil_of_length_eq_zero h0
    rfl
theorem impl_copyProfile_eq {as ls ds : List Nat} (ha : as.length ≤ 1099511627776) (hl : ls.length ≤ 1099511627776) (hd : ds.length ≤ 1099511627776) :
    z60 as.length as ls.length ls ds.length ds = some (as.length, ls.length, ds.length, as, ls, ds) := by
  obtain ⟨p1, q1, r1⟩ := zds (slices_Clone_eq ha)
  obtain ⟨p2, q2, r2⟩ := zds (slices_Clone_eq hl)
  obtain ⟨p3, q3, r3⟩ := zds (slices_Clone_eq hd)
  unfold z60 zac
  simp only [pF_all, p1, q1, r1, p2, q2, r2, p3, q3, r3, grd_true]
theorem validProfB_len {as ls ds : List Nat} (h : validProfB as ls ds = true) : 2 ≤ as.length ∧ as.length ≤ 24 ∧ ls.length = as.length ∧ ds.length = as.length := by
  unfold validProfB at h
  simp only [Bool.and_eq_true, decide_eq_true_eq] at h
  exact ⟨h.1, h.2.1, h.2.2.1, h.2.2.2.1⟩
theorem laws_heldProfile_eq {k0 : Int} {l m n : Nat} (hk : 0 ≤ k0) (hk2 : k0 + (l : Int) + (m : Int) ≤ 1099511627776) (hl : l < 281474976710656) (hm : m < 281474976710656) (hn : n < 281474976710656) :
    zai l (marks k0 l) m (marks (k0 + (l : Int)) m) n (marks (k0 + (l : Int) + (m : Int)) n) k0 = some (k0 + (l : Int) + (m : Int) + (n : Int)) := by
  obtain ⟨p1, q1⟩ := zii (laws_heldFloat32S_eq (k0 := k0) (n := l) hk (by omega) hl)
  obtain ⟨p2, q2⟩ := zii (laws_heldFloat32S_eq (k0 := k0 + (l : Int)) (n := m) (by omega) (by omega) hm)
  obtain ⟨p3, q3⟩ := zii (laws_heldFloat32S_eq (k0 := k0 + (l : Int) + (m : Int)) (n := n) (by omega) hk2 hn)
  have l1 : ltI (k0 + (l : Int)) 0 = false := ltI_f (by omega)
  have l2 : ltI (k0 + (l : Int) + (m : Int)) 0 = false := ltI_f (by omega)
  have l3 : ltI (k0 + (l : Int) + (m : Int) + (n : Int)) 0 = false := ltI_f (by omega)
  unfold zai zag
  simp only [marks_pF, p1, q1, l1, p2, q2, l2, p3, q3, l3, grd_true, br_false]
theorem prof_law {as ls ds : List Nat} (ma : as.length ≤ maxLen) (ml : ls.length ≤ maxLen) (md : ds.length ≤ maxLen) : ∃ r, zdo as.length as ls.length ls ds.length ds 1048576 = true ∧ zd2 as.length as ls.length ls ds.length ds 1048576 = r ∧
    (r < 0 ∨ (ltI r 0 = false ∧ as.length + ls.length + ds.length ≤ 1048576 ∧ zdw as.length as ls.length ls ds.length ds = true ∧ zd6 as.length as ls.length ls ds.length ds = as.length ∧ zd0 as.length as ls.length ls ds.length ds = ls.length ∧ zd5 as.length as ls.length ls ds.length ds = ds.length ∧
      zd4 as.length as ls.length ls ds.length ds = as ∧ zd1 as.length as ls.length ls ds.length ds = ls ∧ zd3 as.length as ls.length ls ds.length ds = ds ∧
      zc7 as.length as ls.length ls ds.length ds as.length as ls.length ls ds.length ds = true ∧ zbm as.length as ls.length ls ds.length ds as.length as ls.length ls ds.length ds = true)) := by
  obtain ⟨r1, h1, k1, _⟩ := laws_szProfile_eq (left := 1048576) ma ml md (by decide) (by decide)
  obtain ⟨p1, q1⟩ := zo7 h1
  refine ⟨r1, p1, q1, ?_⟩
  by_cases c1 : r1 < 0
  · exact .inl c1
  · have l1 := k1 (by omega)
    obtain ⟨p3, a3, b3, d3, e3, f3, g3⟩ := zof (laws_toProfile_eq (as := as) (ls := ls) (ds := ds) (by omega) (by omega) (by omega))
    obtain ⟨p7, q7⟩ := zk3 (laws_eqProfile_refl (as := as) (ls := ls) (ds := ds) (by omega) (by omega) (by omega))
    exact .inr ⟨ltI_f c1, l1, p3, a3, b3, d3, e3, f3, g3, p7, q7⟩
theorem valid_n {as ls ds st : List Nat} {n : Nat} {count : Int} {hub tip : Nat} (h : validRotorB as ls ds st n count hub tip = true) : n ≤ 12 := by
  unfold validRotorB at h
  simp only [Bool.and_eq_true, decide_eq_true_eq] at h
  exact h.2.2.2.1
theorem spec_l02Own_eq {as ls ds : List Nat} (ha : as.length ≤ 1099511627776) (hl : ls.length ≤ 1099511627776) (hd : ds.length ≤ 1099511627776) :
    z8i as.length as ls.length ls ds.length ds = some (as.length, ls.length, ds.length, as, ls, ds) := by
  have h1 : okA2 0 as.length 4 (nF as) (nF []) 1 = true := decide_eq_true ⟨by omega, by omega, by simp [nF], by simp [nF]⟩
  have h2 : okA2 0 ls.length 4 (nF ls) (nF []) 1 = true := decide_eq_true ⟨by omega, by omega, by simp [nF], by simp [nF]⟩
  have h3 : okA2 0 ds.length 4 (nF ds) (nF []) 1 = true := decide_eq_true ⟨by omega, by omega, by simp [nF], by simp [nF]⟩
  unfold z8i zes
  simp only [pF_all, h1, h2, h3, grd_true, adN, Nat.zero_add, aF, List.nil_append]
abbrev RotR := Nat × Nat × Nat × Nat × Int × Nat × Nat × Bool × List Nat × List Nat × List Nat × List Nat
def noneR : RotR := (0, 0, 0, 0, 0, 0, 0, false, [], [], [], [])
def giveR (as ls ds st : List Nat) (n : Nat) (count : Int) (hub tip : Nat) : RotR :=
  if validRotorB as ls ds st n count hub tip = true then (as.length, ls.length, ds.length, n, count, hub, tip, true, as, ls, ds, st) else noneR
/-- What is given back is sound: the rows have their lengths. -/
def RotOk (R : RotR) : Prop := R.2.2.2.2.2.2.2.2.1.length = R.1 ∧ R.2.2.2.2.2.2.2.2.2.1.length = R.2.1 ∧ R.2.2.2.2.2.2.2.2.2.2.1.length = R.2.2.1 ∧ R.2.2.2.2.2.2.2.2.2.2.2.length = R.2.2.2.1 * 3 ∧ R.1 ≤ 24 ∧ R.2.1 ≤ 24 ∧ R.2.2.1 ≤ 24 ∧ R.2.2.2.1 ≤ 12
theorem noneR_ok : RotOk noneR := by unfold RotOk noneR; simp
theorem giveR_ok {as ls ds st : List Nat} {n : Nat} {count : Int} {hub tip : Nat} (z : st.length = n * 3) : RotOk (giveR as ls ds st n count hub tip) := by
  unfold giveR
  split
  · rename_i h
    have hn := valid_n h
    have hv : validProfB as ls ds = true := by
      unfold validRotorB at h
      simp only [Bool.and_eq_true] at h
      exact h.1
    obtain ⟨_, c2, c3, c4⟩ := validProfB_len hv
    exact ⟨rfl, rfl, rfl, z, c2, by show ls.length ≤ 24; omega, by show ds.length ≤ 24; omega, hn⟩
  · exact noneR_ok
def evenRow (hub tip chord twist n i : Nat) : List Nat := [fop .add .f32 hub (fop .mul .f32 (fop .sub .f32 tip hub) (fop .quo .f32 (fop .add .f32 (fOI .f32 (Int.ofNat i)) 1056964608) (fOI .f32 (Int.ofNat n)))), chord, twist]
def evenL (hub tip chord twist n : Nat) : Nat → List Nat
  | 0 => []
  | i + 1 => evenL hub tip chord twist n i ++ evenRow hub tip chord twist n i
theorem evenL_len (hub tip chord twist n : Nat) : ∀ i, (evenL hub tip chord twist n i).length = i * 3
  | 0 => rfl
  | i + 1 => by rw [evenL, List.length_append, evenL_len, Nat.add_mul]; rfl
theorem okA2_3 {n : Nat} {b : List Nat} (l : List Nat) (hl : l.length = 3) (hb : b.length = n * 3) (hn : n < 1099511627776) : okA2 n 1 12 (nF (pF l 0 (muN 1 3))) (nF b) 3 = true :=
  decide_eq_true ⟨by omega, by omega, by simp [nF, pF, muN, hl], by simp [nF, hb]⟩
theorem impl_Even_loop (hub tip chord twist : Nat) {n : Nat} (hn : n ≤ 12) : z4a (Int.ofNat n) hub tip chord twist (Int.ofNat n) big 0 0 [] = some (Int.ofNat n, false, n, evenL hub tip chord twist n n) := by
  have := runs (L := fun m i => z4a (Int.ofNat n) hub tip chord twist (Int.ofNat n) m i i.toNat (evenL hub tip chord twist n i.toNat)) (len := n) (e := (Int.ofNat n, false, n, evenL hub tip chord twist n n))
    (fun m i hi => by
      show z4a _ _ _ _ _ _ _ _ i (evenL hub tip chord twist n i) = z4a _ _ _ _ _ _ _ _ (i + 1) (evenL hub tip chord twist n (i + 1))
      rw [zja]; unfold z73
      rw [ltN_t hi, addI1 (by omega), okA2_3 _ rfl (evenL_len hub tip chord twist n i) (by omega)]
      rfl)
    (fun m => by
      show z4a _ _ _ _ _ _ _ _ n (evenL hub tip chord twist n n) = _
      rw [zja]; unfold z73
      rw [ltN_f (Nat.le_refl _), br_false]) (by omega)
  exact this
theorem spec_Even_loop (hub tip chord twist : Nat) {n : Nat} (hn : n ≤ 12) : z4b (Int.ofNat n) hub tip chord twist big 0 0 [] = some (Int.ofNat n, false, n, evenL hub tip chord twist n n) := by
  have := runs (L := fun m i => z4b (Int.ofNat n) hub tip chord twist m i i.toNat (evenL hub tip chord twist n i.toNat)) (len := n) (e := (Int.ofNat n, false, n, evenL hub tip chord twist n n))
    (fun m i hi => by
      show z4b _ _ _ _ _ _ _ i (evenL hub tip chord twist n i) = z4b _ _ _ _ _ _ _ (i + 1) (evenL hub tip chord twist n (i + 1))
      rw [zj3]; unfold z72
      rw [ltN_t hi, addI1 (by omega), okA2_3 _ rfl (evenL_len hub tip chord twist n i) (by omega)]
      rfl)
    (fun m => by
      show z4b _ _ _ _ _ _ _ n (evenL hub tip chord twist n n) = _
      rw [zj3]; unfold z72
      rw [ltN_f (Nat.le_refl _), br_false]) (by omega)
  exact this
def evenR (as ls ds : List Nat) (count stations : Int) (hub tip chord twist : Nat) : RotR :=
  if inB stations 2 12 = true then giveR as ls ds (evenL hub tip chord twist stations.toNat stations.toNat) stations.toNat count hub tip else noneR
theorem evenR_ok {as ls ds : List Nat} (count stations : Int) (hub tip chord twist : Nat) : RotOk (evenR as ls ds count stations hub tip chord twist) := by
  unfold evenR
  split
  · exact giveR_ok (evenL_len _ _ _ _ _ _)
  · exact noneR_ok
theorem impl_EvenRotor_eq {as ls ds : List Nat} (count stations : Int) (hub tip chord twist : Nat) (ha : as.length ≤ 1099511627776) (hl : ls.length ≤ 1099511627776) (hd : ds.length ≤ 1099511627776) :
    z4y as.length as ls.length ls ds.length ds count stations hub tip chord twist = some (evenR as ls ds count stations hub tip chord twist) := by
  obtain ⟨p1, q1⟩ := zm5 (impl_within_eq stations 2 12)
  obtain ⟨e0, e1, e2, e3, e4, e5, e6⟩ := znq (impl_copyProfile_eq ha hl hd)
  unfold z4y zcb evenR
  simp only [pF_all, p1, q1, grd_true]
  cases hc : inB stations 2 12
  · rfl
  · have h2 := inB_le hc
    obtain ⟨n, rfl⟩ := Int.eq_ofNat_of_zero_le (show 0 ≤ stations by omega)
    have hn : n ≤ 12 := by omega
    have hs : pF (evenL hub tip chord twist n n) 0 (muN n 3) = evenL hub tip chord twist n n := pF_all3 (evenL_len _ _ _ _ _ _)
    obtain ⟨p3, q3⟩ := zns (impl_ValidRotor_eq (as := as) (st := evenL hub tip chord twist n n) (n := n) (count := count) (hub := hub) (tip := tip) (show ls.length < 281474976710656 by omega) (show ds.length < 281474976710656 by omega))
    obtain ⟨g1, _, _, g2, g3⟩ := zma rfl (impl_Even_loop hub tip chord twist hn)
    have en : ((n : Int)) = Int.ofNat n := rfl
    simp only [en, e0, e1, e2, e3, e4, e5, e6, pF_all, g1, g2, g3, hs, p3, q3, grd_true, bnot_true, br_false, if_true]
    unfold giveR
    show br (!validRotorB as ls ds (evenL hub tip chord twist n n) n count hub tip) _ _ = some (if validRotorB as ls ds (evenL hub tip chord twist n n) n count hub tip = true then _ else _)
    cases validRotorB as ls ds (evenL hub tip chord twist n n) n count hub tip <;> rfl
theorem spec_EvenRotor_eq {as ls ds : List Nat} (count stations : Int) (hub tip chord twist : Nat) (ha : as.length ≤ 1099511627776) (hl : ls.length ≤ 1099511627776) (hd : ds.length ≤ 1099511627776) :
    z4x as.length as ls.length ls ds.length ds count stations hub tip chord twist = some (evenR as ls ds count stations hub tip chord twist) := by
  obtain ⟨p0, q0⟩ := zn3 (spec_l02Is_eq (as := as) (ls := ls) (ds := ds))
  obtain ⟨p1, q1⟩ := zn6 (spec_l00In_eq stations 2 12)
  obtain ⟨e0, e1, e2, e3, e4, e5, e6⟩ := zpi (spec_l02Own_eq ha hl hd)
  unfold z4x zcl evenR
  simp only [pF_all, p0, q0, p1, q1, grd_true]
  cases hv : validProfB as ls ds
  · have : ∀ st n, giveR as ls ds st n count hub tip = noneR := by
      intro st n; unfold giveR validRotorB; rw [hv]; rfl
    rw [this]
    cases inB stations 2 12 <;> rfl
  · cases hc : inB stations 2 12
    · rfl
    · have h2 := inB_le hc
      obtain ⟨n, rfl⟩ := Int.eq_ofNat_of_zero_le (show 0 ≤ stations by omega)
      have hn : n ≤ 12 := by omega
      have hs : pF (evenL hub tip chord twist n n) 0 (muN n 3) = evenL hub tip chord twist n n := pF_all3 (evenL_len _ _ _ _ _ _)
      obtain ⟨p3, q3⟩ := zpj (spec_l03Is_eq (as := as) (ls := ls) (ds := ds) (st := evenL hub tip chord twist n n) (n := n) (count := count) (hub := hub) (tip := tip))
      obtain ⟨g1, _, _, g2, g3⟩ := zm9 rfl (spec_Even_loop hub tip chord twist hn)
      have en : ((n : Int)) = Int.ofNat n := rfl
      simp only [en, e0, e1, e2, e3, e4, e5, e6, pF_all, g1, g2, g3, hs, p3, q3, grd_true, bnot_true, br_false, if_true]
      unfold giveR
      show br (!validRotorB as ls ds (evenL hub tip chord twist n n) n count hub tip) _ _ = some (if validRotorB as ls ds (evenL hub tip chord twist n n) n count hub tip = true then _ else _)
      cases validRotorB as ls ds (evenL hub tip chord twist n n) n count hub tip <;> rfl
theorem addI_in2 {k : Int} (h0 : 0 ≤ k) (h1 : k ≤ 4611686018427387904) : addI .i64 k 1 = k + 1 := addI_in (by omega) (by omega)
theorem mark_loop3 {L : Nat → Int → Int → List Nat → Option (Int × Int × Bool × List Nat)} {n : Nat} {k0 : Int} {ys : List Nat} (hy : ys.length = n * 3) (hk : 0 ≤ k0) (hk2 : k0 ≤ 1099511627776) (hl : n ≤ 1099511627776)
    (hs : ∀ m k i b, okIx i n = true → ltI i (Int.ofNat n) = true → L (m + 1) k i b = L m (addI .i64 (addI .i64 (addI .i64 k 1) 1) 1) (addI .i64 i 1) (sF (sF (sF b (ixO 0 i 3) (fOI .f32 k)) (Nat.succ (ixO 0 i 3)) (fOI .f32 (addI .i64 k 1))) (Nat.succ (Nat.succ (ixO 0 i 3))) (fOI .f32 (addI .i64 (addI .i64 k 1) 1))))
    (he : ∀ m k i b, ltI i (Int.ofNat n) = false → L (m + 1) k i b = some (k, i, false, b)) :
    L big k0 0 ys = some (k0 + (n : Int) * 3, Int.ofNat n, false, marks k0 (n * 3)) := by
  have hm : (marks k0 (n * 3)).length = n * 3 := marks_length _ _
  have := runs (L := fun m i => L m (k0 + i * 3) i ((marks k0 (n * 3)).take (i.toNat * 3) ++ ys.drop (i.toNat * 3))) (len := n) (e := (k0 + (n : Int) * 3, Int.ofNat n, false, marks k0 (n * 3)))
    (fun m i hi => by
      show L (m + 1) (k0 + (i : Int) * 3) i ((marks k0 (n * 3)).take (i * 3) ++ ys.drop (i * 3)) = L m (k0 + ((i + 1 : Nat) : Int) * 3) ((i + 1 : Nat) : Int) ((marks k0 (n * 3)).take ((i + 1) * 3) ++ ys.drop ((i + 1) * 3))
      have e1 : addI .i64 (k0 + (i : Int) * 3) 1 = k0 + ((i * 3 + 1 : Nat) : Int) := by rw [addI_in2 (by omega) (by omega)]; omega
      have e2 : addI .i64 (k0 + ((i * 3 + 1 : Nat) : Int)) 1 = k0 + ((i * 3 + 2 : Nat) : Int) := by rw [addI_in2 (by omega) (by omega)]; omega
      have e3 : addI .i64 (k0 + ((i * 3 + 2 : Nat) : Int)) 1 = k0 + ((i + 1 : Nat) : Int) * 3 := by rw [addI_in2 (by omega) (by omega)]; omega
      have e0 : k0 + (i : Int) * 3 = k0 + ((i * 3 : Nat) : Int) := by omega
      rw [hs m _ (i : Int) _ (okIx_t hi) (ltN_t hi), e1, e2, e3, show addI .i64 (i : Int) 1 = ((i + 1 : Nat) : Int) from addI1 (by omega), show ixO 0 (i : Int) 3 = i * 3 from ix3 i, e0]
      rw [← put3 (xs := marks k0 (n * 3)) (zs := ys) hm (by rw [hy, hm]) hi, marks_get (by omega), marks_get (by omega), marks_get (by omega)])
    (fun m => by
      show L (m + 1) (k0 + (n : Int) * 3) n ((marks k0 (n * 3)).take (n * 3) ++ ys.drop (n * 3)) = _
      rw [he m _ (n : Int) _ (ltN_f (Nat.le_refl _)), List.take_of_length_le (by omega), List.drop_of_length_le (by omega), List.append_nil]
      rfl) (by omega)
  have h0 : k0 + (0 : Int) * 3 = k0 := by omega
  simpa [h0] using this
theorem laws_heldStationS_eq {k0 : Int} {n : Nat} (hk : 0 ≤ k0) (hk2 : k0 ≤ 1099511627776) (hl : n ≤ 1099511627776) : z9p n (marks k0 (n * 3)) k0 = some (k0 + (n : Int) * 3) := by
  unfold z9p z9l
  have hp : pF (marks k0 (n * 3)) 0 (muN n 3) = marks k0 (n * 3) := pF_all3 (marks_length _ _)
  have e : ∀ j : Nat, fcmp .neq .f32 (fOI .f32 (k0 + (j : Int))) (fOI .f32 (k0 + (j : Int))) = false := by intro j; rw [neq_self, fOI_nan]
  have hf := runs (L := fun m i => z45 n (marks k0 (n * 3)) m (k0 + i * 3) i) (len := n) (e := Sum.inr (k0 + (n : Int) * 3, Int.ofNat n, false))
    (fun m i hi => by
      show z45 n (marks k0 (n * 3)) (m + 1) (k0 + (i : Int) * 3) (Int.ofNat i) = z45 n (marks k0 (n * 3)) m (k0 + ((i + 1 : Nat) : Int) * 3) (Int.ofNat (i + 1))
      have e1 : addI .i64 (k0 + (i : Int) * 3) 1 = k0 + ((i * 3 + 1 : Nat) : Int) := by rw [addI_in2 (by omega) (by omega)]; omega
      have e2 : addI .i64 (k0 + ((i * 3 + 1 : Nat) : Int)) 1 = k0 + ((i * 3 + 2 : Nat) : Int) := by rw [addI_in2 (by omega) (by omega)]; omega
      have e3 : addI .i64 (k0 + ((i * 3 + 2 : Nat) : Int)) 1 = k0 + ((i + 1 : Nat) : Int) * 3 := by rw [addI_in2 (by omega) (by omega)]; omega
      have e0 : k0 + (i : Int) * 3 = k0 + ((i * 3 : Nat) : Int) := by omega
      rw [zi3]; unfold z5y
      rw [ltN_t hi, okIx_t hi, ix3, addI1 (by omega), e1, e2, e3, e0]
      have g0 : gF (marks k0 (n * 3)) (i * 3) = fOI .f32 (k0 + ((i * 3 : Nat) : Int)) := marks_get (by omega)
      have g1 : gF (marks k0 (n * 3)) (Nat.succ (i * 3)) = fOI .f32 (k0 + ((i * 3 + 1 : Nat) : Int)) := marks_get (i := i * 3 + 1) (by omega)
      have g2 : gF (marks k0 (n * 3)) (Nat.succ (Nat.succ (i * 3))) = fOI .f32 (k0 + ((i * 3 + 2 : Nat) : Int)) := marks_get (i := i * 3 + 2) (by omega)
      rw [g0, g1, g2, e, e, e]
      rfl)
    (fun m => by
      show z45 n (marks k0 (n * 3)) (m + 1) (k0 + (n : Int) * 3) (Int.ofNat n) = _
      rw [zi3]; unfold z5y; rw [ltN_f (Nat.le_refl _)]; rfl) (by omega)
  have hf2 : z45 n (marks k0 (n * 3)) big k0 0 = some (Sum.inr (k0 + (n : Int) * 3, Int.ofNat n, false)) := by
    have h0 : k0 + (0 : Int) * 3 = k0 := by omega
    simpa [h0] using hf
  obtain ⟨g1, g2, g3, _⟩ := zkk rfl hf2
  rw [g1, g2, g3]; rfl
theorem marks_pF3 (k0 : Int) (n : Nat) : pF (marks k0 (n * 3)) 0 (muN n 3) = marks k0 (n * 3) := pF_all3 (marks_length _ _)
theorem laws_heldRotor_eq {k0 : Int} {l m n s : Nat} {count : Int} {hub tip : Nat} (hk : 0 ≤ k0) (hk2 : k0 + (l : Int) + (m : Int) + (n : Int) ≤ 1099511627776) (hl : l < 281474976710656) (hm : m < 281474976710656) (hn : n < 281474976710656) (hs : s ≤ 1099511627776) :
    zc8 l (marks k0 l) m (marks (k0 + (l : Int)) m) n (marks (k0 + (l : Int) + (m : Int)) n) s (marks (k0 + (l : Int) + (m : Int) + (n : Int)) (s * 3)) count hub tip k0 = some (k0 + (l : Int) + (m : Int) + (n : Int) + (s : Int) * 3) := by
  obtain ⟨p1, q1⟩ := zne (laws_heldProfile_eq (k0 := k0) (l := l) (m := m) (n := n) hk (by omega) hl hm hn)
  obtain ⟨p2, q2⟩ := zmt (laws_heldStationS_eq (k0 := k0 + (l : Int) + (m : Int) + (n : Int)) (n := s) (by omega) hk2 hs)
  have l1 : ltI (k0 + (l : Int) + (m : Int) + (n : Int)) 0 = false := ltI_f (by omega)
  have l2 : ltI (k0 + (l : Int) + (m : Int) + (n : Int) + (s : Int) * 3) 0 = false := ltI_f (by omega)
  unfold zc8 zce
  simp only [marks_pF, marks_pF3, p1, q1, l1, p2, q2, l2, grd_true, br_false]
theorem laws_eqRotor_refl {as ls ds st : List Nat} {n : Nat} {count : Int} {hub tip : Nat} (ha : as.length < 281474976710656) (hl : ls.length < 281474976710656) (hd : ds.length < 281474976710656) (z : st.length = n * 3) (hn : n < 281474976710656) :
    zdh as.length as ls.length ls ds.length ds n st count hub tip as.length as ls.length ls ds.length ds n st count hub tip = some true := by
  have hst : pF st 0 (muN n 3) = st := pF_all3 z
  obtain ⟨p1, q1⟩ := zk3 (laws_eqProfile_refl ha hl hd)
  obtain ⟨p2, q2⟩ := znt (laws_eqStationS_refl (xs := st) hn)
  obtain ⟨p3, q3⟩ := zbw (laws_sameFloat_refl (fcvV .f32 .f64 hub))
  obtain ⟨p4, q4⟩ := zbw (laws_sameFloat_refl (fcvV .f32 .f64 tip))
  unfold zdh zdj
  simp only [pF_all, hst, p1, q1, p2, q2, p3, q3, p4, q4, neI_self, grd_true, bnot_true, br_false]
theorem plain_FnExactEvenRotor {as ls ds : List Nat} {count stations : Int} {hub tip chord twist : Nat} (ka : ∀ x ∈ as, canW .f32 x) (ma : as.length ≤ maxLen) (kl : ∀ x ∈ ls, canW .f32 x) (ml : ls.length ≤ maxLen) (kd : ∀ x ∈ ds, canW .f32 x) (md : ds.length ≤ maxLen)
    (kc : bdI .i64 count) (kn : bdI .i64 stations) (kh : canW .f32 hub) (kt : canW .f32 tip) (kr : canW .f32 chord) (kw : canW .f32 twist) : z8b as.length as ls.length ls ds.length ds count stations hub tip chord twist = some true := by
  obtain ⟨r, p1, q1, h⟩ := prof_law ma ml md
  unfold z8b z8c
  simp only [z0p, z90, z0o, z93, z0n, z95, z88, zbd, z0w, z0u, z0r, zb9, z57, z8p, zb4, z7t, z8u, z7u, z7v, zan, z7r, zb2, z7w, z7s, z7q, z54, z8n, z56, zb5, z55, z8q, zau, zb8, zb3, zap, z8x, z8r, zar, zb7, zax, zas, zam, zav, zaw, zay, zba, z8y, zb6, z8o, zat, zao, z8w, z8s, zal, zaq, zak, zb0, pF_all, p1, q1, grd_true]
  rcases h with h | ⟨e, l, t0, t1, t2, t3, t4, t5, t6, e0, e1⟩
  · rw [ltI_t h]; rfl
  · skip
    obtain ⟨i0, i1, i2, i3, i4, i5, i6, i7, i8, i9, i10, i11, i12⟩ := zog (impl_EvenRotor_eq (as := as) (ls := ls) (ds := ds)  count stations hub tip chord twist (by omega) (by omega) (by omega))
    obtain ⟨s0, s1, s2, s3, s4, s5, s6, s7, s8, s9, s10, s11, s12⟩ := zo3 (spec_EvenRotor_eq (as := as) (ls := ls) (ds := ds)  count stations hub tip chord twist (by omega) (by omega) (by omega))
    obtain ⟨y1, y2, y3, y4, y5, y6, y7, y8⟩ := evenR_ok (as := as) (ls := ls) (ds := ds) count stations hub tip chord twist
    generalize evenR as ls ds count stations hub tip chord twist = R at *
    obtain ⟨m1, m2, m3, m4, cn', hu', ti', ok, us, vs, ws, ss⟩ := R
    simp only at y1 y2 y3 y4 y5 y6 y7 y8
    subst y1 y2 y3
    have hss : pF ss 0 (muN m4 3) = ss := pF_all3 y4
    obtain ⟨p7, q7⟩ := zpe (laws_eqRotor_refl (as := us) (ls := vs) (ds := ws) (st := ss) (n := m4) (count := cn') (hub := hu') (tip := ti') (by omega) (by omega) (by omega) y4 (by omega))
    obtain ⟨A1, A2, _⟩ := zhk rfl (mark_loop (L := z2z as.length) (k0 := 1) (ys := as) rfl (by omega) (by omega) (by omega) (fun n k i b => by rw [zev]; rfl))
    obtain ⟨B1, B2, _⟩ := zfq rfl (mark_loop (L := z2o ls.length) (k0 := 1 + (as.length : Int)) (ys := ls) rfl (by omega) (by omega) (by omega) (fun n k i b => by rw [ze5]; rfl))
    obtain ⟨C1, C2, _⟩ := zfl rfl (mark_loop (L := z2p ds.length) (k0 := 1 + (as.length : Int) + (ls.length : Int)) (ys := ds) rfl (by omega) (by omega) (by omega) (fun n k i b => by rw [ze6]; rfl))
    obtain ⟨G1, G2, _, _, G5⟩ := zfk rfl (mark_loop (L := z2n us.length) (k0 := 1) (ys := us) rfl (by omega) (by omega) (by omega) (fun n k i b => by rw [ze8]; rfl))
    obtain ⟨H1, H2, _, _, H5⟩ := zfi rfl (mark_loop (L := z2m vs.length) (k0 := 1 + (us.length : Int)) (ys := vs) rfl (by omega) (by omega) (by omega) (fun n k i b => by rw [ze7]; rfl))
    obtain ⟨I1, I2, _, _, I5⟩ := zfh rfl (mark_loop (L := z2l ws.length) (k0 := 1 + (us.length : Int) + (vs.length : Int)) (ys := ws) rfl (by omega) (by omega) (by omega) (fun n k i b => by rw [ze4]; rfl))
    obtain ⟨J1, J2, _, _, J5⟩ := zhi rfl (mark_loop3 (L := z2y m4) (n := m4) (k0 := 1 + (us.length : Int) + (vs.length : Int) + (ws.length : Int)) (ys := ss) y4 (by omega) (by omega) (by omega) (fun m k i b h1 h2 => by rw [z9g]; unfold z43; rw [h1, h2]; rfl) (fun m k i b h => by rw [z9g]; unfold z43; rw [h]; rfl))
    obtain ⟨K1, K2⟩ := zo4 (laws_heldRotor_eq (k0 := 1) (l := us.length) (m := vs.length) (n := ws.length) (s := m4) (count := cn') (hub := hu') (tip := ti') (by omega) (by omega) (by omega) (by omega) (by omega) (by omega))
    have z1 : ltI (1 + (as.length : Int) + (ls.length : Int) + (ds.length : Int)) 0 = false := ltI_f (by omega)
    have z2 : ltI (1 + (us.length : Int) + (vs.length : Int) + (ws.length : Int) + (m4 : Int) * 3) 0 = false := ltI_f (by omega)
    simp only [z0p, z90, z0o, z93, z0n, z95, z88, zbd, z0w, z0u, z0r, zb9, z57, z8p, zb4, z7t, z8u, z7u, z7v, zan, z7r, zb2, z7w, z7s, z7q, z54, z8n, z56, zb5, z55, z8q, zau, zb8, zb3, zap, z8x, z8r, zar, zb7, zax, zas, zam, zav, zaw, zay, zba, z8y, zb6, z8o, zat, zao, z8w, z8s, zal, zaq, zak, zb0, e, t0, t1, t2, t3, t4, t5, t6, e0, e1, pF_all, hss, i0, i1, i2, i3, i4, i5, i6, i7, i8, i9, i10, i11, i12, s0, s1, s2, s3, s4, s5, s6, s7, s8, s9, s10, s11, s12, p7, q7, A1, A2, B1, B2, C1, C2, G1, G2, G5, H1, H2, H5, I1, I2, I5, J1, J2, J5, marks_pF, marks_pF3, K1, K2, z1, z2, grd_true, br_false, bnot_true, beqB_self, neI_self]
end Go.Rf
