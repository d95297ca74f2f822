/-
  Plain laws.
-/
import Derived.Test.YtihlcjjbenkokaaScaleRotorP
set_option linter.unusedVariables false
set_option linter.unusedSimpArgs false
set_option maxRecDepth 100000
set_option maxHeartbeats 4000000
namespace Go.Rf
open Go
def finB (x : Nat) : Bool := fcmp .eql .f32 (fop .sub .f32 x x) 0
def leastB (x : Nat) : Bool := finB x && fcmp .geq .f32 x 0
def posB (x : Nat) : Bool := finB x && fcmp .gtr .f32 x 0
theorem floatBits_nan {op : BinOp} {k : FloatKind} {x y : Nat} (h : nanB k x = true ∨ nanB k y = true) : floatBits op k x y = none := by
  unfold floatBits
  rcases h with h | h
  · obtain ⟨s, f, e⟩ := nan_form h
    cases op <;> simp only [Ieee.Format.add, Ieee.Format.sub, Ieee.Format.mul, Ieee.Format.div, e, sum_nan_left, product_nan_left, quotient_nan_left, Option.map_none]
  · obtain ⟨s, f, e⟩ := nan_form h
    cases op <;> simp only [Ieee.Format.add, Ieee.Format.sub, Ieee.Format.mul, Ieee.Format.div, e, sum_nan_right, product_nan_right, quotient_nan_right, Option.map_none, Ieee.Datum.opposite]
theorem fop_nan {op : BinOp} {k : FloatKind} {x y : Nat} (h : nanB k x = true ∨ nanB k y = true) : fop op k x y = qn k := by
  unfold fop
  rw [floatBits_nan h]; rfl
theorem fin_num {x : Nat} (h : finB x = true) : nanB .f32 x = false := by
  cases hn : nanB .f32 x with
  | false => rfl
  | true =>
    unfold finB at h
    rw [fop_nan (.inl hn), (fcmp_nan .f32 (.inl (nanB_qn .f32))).1] at h
    cases h
theorem nan_zero : nanB .f32 0 = false := by decide +kernel
theorem leq_not_gtr {x y : Nat} (hx : nanB .f32 x = false) (hy : nanB .f32 y = false) : fcmp .leq .f32 x y = !fcmp .gtr .f32 x y := by
  obtain ⟨_, _, _, h4, h5, _⟩ := fcmp_num .f32 hx hy
  rw [h4, h5]
  by_cases h : srung FloatKind.f32.format x ≤ srung FloatKind.f32.format y
  · rw [decide_eq_true h, decide_eq_false (by omega)]; rfl
  · rw [decide_eq_false h, decide_eq_true (by omega)]; rfl
theorem impl_IsFinite_eq (x : Nat) : zhs x = some (finB x) := rfl
theorem spec_l01Finite_eq (x : Nat) : zfi x = some (finB x) := rfl
theorem impl_isLeast_eq (x : Nat) : zf3 x = some (leastB x) := by
  obtain ⟨h1, h2⟩ := zfd (impl_IsFinite_eq x)
  unfold zf3 zf4 leastB
  rw [h1, h2]
  cases finB x <;> rfl
theorem spec_l02Least_eq (x : Nat) : zee x = some (leastB x) := by
  obtain ⟨h1, h2⟩ := zel (spec_l01Finite_eq x)
  unfold zee zed leastB
  rw [h1, h2]
  cases finB x <;> rfl
theorem spec_l02Above_eq (x : Nat) : zec x = some (posB x) := by
  obtain ⟨h1, h2⟩ := zel (spec_l01Finite_eq x)
  unfold zec zeh posB
  rw [h1, h2]
  cases finB x <;> rfl
theorem impl_arePositive_1_eq (x : Nat) : zae x = some (!posB x) := by
  obtain ⟨h1, h2⟩ := zfd (impl_IsFinite_eq x)
  unfold zae zad posB
  rw [h1, h2]
  cases hf : finB x with
  | false => rfl
  | true => simp only [br_if, grd_true, bnot, Bool.not_true, leq_not_gtr (fin_num hf) nan_zero]; simp
theorem impl_areLeast_1_eq (x : Nat) : zcx x = some (!leastB x) := by
  obtain ⟨h1, h2⟩ := zod (impl_isLeast_eq x)
  unfold zcx zd3
  rw [h1, h2]; rfl
theorem laws_sameFloat_refl (x : Nat) : ze3 x x = some true := by
  unfold ze3 zdz
  simp only [neq_self]
  cases hn : nanB .f64 x with
  | true => rfl
  | false =>
    have he : fcmp .eql .f64 x x = true := by rw [(fcmp_num .f64 hn hn).1]; simp
    simp only [br_if, Bool.false_eq_true, if_false, he, beqB, BEq.rfl]
    split <;> rfl
theorem slices_IndexFunc_areLeast {xs : List Nat} (hl : xs.length < 281474976710656) : ∃ r : Int, z61 xs.length xs = some r ∧ leI 0 r = !xs.all leastB := by
  unfold z61 z60
  rcases scan_all (L := z2i xs.length (Int.ofNat xs.length) xs) xs leastB (g := fun i => Int.ofNat i) (e := (Int.ofNat xs.length, false))
    (fun n i hi => by
      rw [zai]; unfold z4o; rw [ltN_t hi, okIx_t hi, ix1, addI1 (by omega)]
      simp only [gF]
      generalize xs.getD i 0 = x
      obtain ⟨h1, h2⟩ := zrb (impl_areLeast_1_eq x)
      simp only [br_if, grd_true, h1, h2]
      rcases Bool.eq_false_or_eq_true (leastB x) with h | h <;> simp [h])
    (fun n => by rw [zai]; unfold z4o; rw [ltN_f (Nat.le_refl _)]; rfl) hl with ⟨h1, h2⟩ | ⟨j, h2, h3, h4⟩
  · obtain ⟨g1, g2, _⟩ := zj4 rfl h2
    exact ⟨Int.negSucc 0, by rw [g1, g2]; rfl, by rw [h1]; rfl⟩
  · obtain ⟨g1, g2, g3⟩ := ziu rfl h4
    exact ⟨Int.ofNat j, by rw [g1, g2, g3]; rfl, by rw [h3]; exact decide_eq_true (by simp)⟩
theorem slices_ContainsFunc_areLeast {xs : List Nat} (hl : xs.length < 281474976710656) : z5n xs.length xs = some (!xs.all leastB) := by
  obtain ⟨r, h1, h2⟩ := slices_IndexFunc_areLeast hl
  obtain ⟨g1, g2⟩ := zl8 h1
  unfold z5n z5r
  rw [pF_all, g1, g2, h2]; rfl
theorem impl_areLeast_eq {xs : List Nat} (hl : xs.length < 281474976710656) : zei xs.length xs = some (xs.all leastB) := by
  obtain ⟨g1, g2⟩ := zke (slices_ContainsFunc_areLeast hl)
  unfold zei zef
  rw [pF_all, g1, g2]
  simp [grd_true, bnot]
theorem slices_IndexFunc_arePositive {xs : List Nat} (hl : xs.length < 281474976710656) : ∃ r : Int, z5q xs.length xs = some r ∧ leI 0 r = !xs.all posB := by
  unfold z5q z5s
  rcases scan_all (L := z22 xs.length (Int.ofNat xs.length) xs) xs posB (g := fun i => Int.ofNat i) (e := (Int.ofNat xs.length, false))
    (fun n i hi => by
      rw [za7]; unfold z4g; rw [ltN_t hi, okIx_t hi, ix1, addI1 (by omega)]
      simp only [gF]
      generalize xs.getD i 0 = x
      obtain ⟨h1, h2⟩ := zpd (impl_arePositive_1_eq x)
      simp only [br_if, grd_true, h1, h2]
      rcases Bool.eq_false_or_eq_true (posB x) with h | h <;> simp [h])
    (fun n => by rw [za7]; unfold z4g; rw [ltN_f (Nat.le_refl _)]; rfl) hl with ⟨h1, h2⟩ | ⟨j, h2, h3, h4⟩
  · obtain ⟨g1, g2, _⟩ := zgo rfl h2
    exact ⟨Int.negSucc 0, by rw [g1, g2]; rfl, by rw [h1]; rfl⟩
  · obtain ⟨g1, g2, g3⟩ := zg8 rfl h4
    exact ⟨Int.ofNat j, by rw [g1, g2, g3]; rfl, by rw [h3]; exact decide_eq_true (by simp)⟩
theorem slices_ContainsFunc_arePositive {xs : List Nat} (hl : xs.length < 281474976710656) : z5e xs.length xs = some (!xs.all posB) := by
  obtain ⟨r, h1, h2⟩ := slices_IndexFunc_arePositive hl
  obtain ⟨g1, g2⟩ := zk2 h1
  unfold z5e z5d
  rw [pF_all, g1, g2, h2]; rfl
theorem impl_arePositive_eq {xs : List Nat} (hl : xs.length < 281474976710656) : za9 xs.length xs = some (xs.all posB) := by
  obtain ⟨g1, g2⟩ := zh0 (slices_ContainsFunc_arePositive hl)
  unfold za9 zc9
  rw [pF_all, g1, g2]
  simp [grd_true, bnot]
def fromToB (x low high : Nat) : Bool := fcmp .geq .f32 x low && fcmp .leq .f32 x high
theorem impl_isFromTo_eq (x low high : Nat) : zeb x low high = some (fromToB x low high) := by
  unfold zeb ze9 fromToB
  rcases Bool.eq_false_or_eq_true (fcmp .geq .f32 x low) with h | h <;> simp [h, br_if]
theorem laws_szFloat32S_eq (n : Nat) (xs : List Nat) (left : Int) : ∃ r, zd9 n xs left = some r ∧ (0 ≤ left → left ≤ 1048576 → n ≤ 9223372036854775807 → (0 ≤ r → r = left - n ∧ (n : Int) ≤ left) ∧ r ≤ 1048576) := by
  unfold zd9 zdh
  by_cases h : subI .i64 left (Int.ofNat n) < 0
  · rw [ltI_t h]
    exact ⟨_, rfl, fun _ _ _ => ⟨fun q => by simp at q, by decide⟩⟩
  · rw [ltI_f h]
    refine ⟨_, rfl, fun h1 h2 h3 => ?_⟩
    have e : subI .i64 left (Int.ofNat n) = left - n := wrap64 (by simp; omega) (by simp; omega)
    rw [e] at h ⊢
    exact ⟨fun _ => ⟨rfl, by omega⟩, by omega⟩
theorem laws_toFloat32S_eq {xs : List Nat} (hl : xs.length ≤ 1099511627776) : zan xs.length xs = some (xs.length, xs) := by
  have hf := folds (L := z63 xs.length xs.length xs) (len := xs.length) (fun i s => s.set i (xs.getD i 0)) (e := fun s => (Int.ofNat xs.length, false, s))
    (fun n i s hi => by rw [zli]; unfold z7q; rw [ltN_t hi, okIx_t hi, ix1, addI1 (by omega)]; rfl)
    (fun n s => by rw [zli]; unfold z7q; rw [ltN_f (Nat.le_refl _)]; rfl) xs.length 0 big (List.replicate xs.length 0) (by omega) (big_gt (by omega))
  rw [copy_fold xs _ _ _ (by omega) (by simp)] at hf
  simp only [List.take_zero, List.drop_zero, List.nil_append] at hf
  obtain ⟨g1, _, _, g2⟩ := zoo rfl hf
  have e : rF (muN (toN (Int.ofNat xs.length)) 1) = List.replicate xs.length 0 := by simp [rF, muN, toN]
  have ho : okMk (Int.ofNat xs.length) (Int.ofNat xs.length) 4 = true := decide_eq_true ⟨rfl, by simp, by simp; omega, by decide⟩
  unfold zan zd7
  rw [e, ho, toN_nat]
  show grd (zcr xs.length xs.length xs (Int.ofNat 0) (List.replicate xs.length 0)) (some (_, zak xs.length xs.length xs (Int.ofNat 0) (List.replicate xs.length 0))) = _
  rw [g1, g2]; rfl
theorem laws_eqFloat32S_refl {xs : List Nat} (hl : xs.length < 281474976710656) : zda xs.length xs xs.length xs = some true := by
  have hn : neI (Int.ofNat xs.length) (Int.ofNat xs.length) = false := by simp [neI]
  unfold zda zdb
  rw [hn]
  rcases scan_all (L := z65 xs.length xs.length xs xs) xs (fun _ => true) (g := fun i => ()) (e := (Int.ofNat xs.length, false))
    (fun n i hi => by
      obtain ⟨h1, h2⟩ := z9x (laws_sameFloat_refl (fcvV FloatKind.f32 FloatKind.f64 (gF xs i)))
      rw [zll]; unfold z7w; rw [ltN_t hi, okIx_t hi, ix1, addI1 (by omega), h1, h2]
      rfl)
    (fun n => by rw [zll]; unfold z7w; rw [ltN_f (Nat.le_refl _)]; rfl) hl with ⟨h1, h2⟩ | ⟨j, h2, h3, h4⟩
  · obtain ⟨g1, g2, _⟩ := zp2 rfl h2
    rw [g1, g2]; rfl
  · simp at h3
theorem beqB_self (b : Bool) : beqB b b = true := by cases b <;> rfl
theorem neI_self (i : Int) : neI i i = false := by simp [neI]
theorem bnot_true : bnot true = false := rfl
theorem ltN (a b : Nat) : ltI (Int.ofNat a) (Int.ofNat b) = decide (a < b) := by by_cases h : a < b <;> simp [ltI, h] <;> omega
theorem get_mem {xs : List Nat} {i : Nat} (h : i < xs.length) : xs.getD i 0 ∈ xs := by
  rw [List.getD_eq_getElem?_getD, List.getElem?_eq_getElem h]; exact List.getElem_mem _
def inB (n low high : Int) : Bool := decide (low ≤ n) && decide (n ≤ high)
theorem spec_l00In_eq (n low high : Int) : zkd n low high = some (inB n low high) := by
  unfold zkd zk1 inB leI
  cases decide (low ≤ n) <;> rfl
theorem impl_within_eq (n low high : Int) : zgt n low high = some (inB n low high) := by
  unfold zgt zgs inB leI
  cases decide (low ≤ n) <;> rfl
def marks (k0 : Int) (n : Nat) : List Nat := (List.range n).map fun (j : Nat) => fOI .f32 (k0 + (j : Int))
theorem marks_length (k0 : Int) (n : Nat) : (marks k0 n).length = n := by simp [marks]
theorem marks_get {k0 : Int} {n i : Nat} (h : i < n) : (marks k0 n).getD i 0 = fOI .f32 (k0 + (i : Int)) := by
  simp [marks, List.getD_eq_getElem?_getD, h]
theorem fOI_nan (k : FloatKind) (n : Int) : nanB k (fOI k n) = false := by
  rw [show fOI k n = floatOfInt k n from rfl, fOI_eq]
  exact nanB_word k _ (rnd_inf _ _ _)
theorem addI_in {a b : Int} (h1 : -9223372036854775808 ≤ a + b) (h2 : a + b ≤ 9223372036854775807) : addI .i64 a b = a + b := wrap64 h1 h2
theorem mark_loop {L : Nat → Int → Int → List Nat → Option (Int × Int × Bool × List Nat)} {len : Nat} {k0 : Int} {ys : List Nat} (hy : ys.length = len) (hk : 0 ≤ k0) (hk2 : k0 ≤ 1099511627776) (hl : len < 281474976710656)
    (hs : ∀ n k i b, L (n + 1) k i b = br (ltI i (Int.ofNat len)) (grd (okIx i len) (L n (addI .i64 k 1) (addI .i64 i 1) (sF b (ixO 0 i 1) (fOI .f32 k)))) (some (k, i, ltI i (Int.ofNat len), b))) :
    L big k0 0 ys = some (k0 + (len : Int), Int.ofNat len, false, marks k0 len) := by
  have hf := folds (L := fun n i s => L n (k0 + i) i s) (len := len) (fun i s => s.set i ((marks k0 len).getD i 0)) (e := fun s => (k0 + (len : Int), Int.ofNat len, false, s))
    (fun n i s hi => by
      show L _ _ _ _ = L _ _ _ _
      rw [hs, ltN_t hi, okIx_t hi, ix1, addI1 (by omega), addI_in (by simp; omega) (by simp; omega), marks_get hi]
      have : k0 + Int.ofNat i + 1 = k0 + Int.ofNat (i + 1) := by simp; omega
      rw [this]; rfl)
    (fun n s => by show L _ _ _ _ = _; rw [hs, ltN_f (Nat.le_refl _)]; rfl) len 0 big ys (by omega) (big_gt hl)
  have hm := copy_fold (marks k0 len) len 0 ys (by simp [marks_length]) (by rw [marks_length, hy])
  rw [hm] at hf
  simpa using hf
theorem laws_heldFloat32S_eq {k0 : Int} {n : Nat} (hk : 0 ≤ k0) (hk2 : k0 ≤ 1099511627776) (hl : n < 281474976710656) : zaz n (marks k0 n) k0 = some (k0 + (n : Int)) := by
  unfold zaz zay
  rcases scan (L := fun m i => z4t n (marks k0 n) m (k0 + i) i) (len := n) (fun _ => true) (g := fun _ => ()) (e := (k0 + (n : Int), Int.ofNat n, false))
    (fun m i hi => by
      show z4t _ _ _ _ _ = _
      rw [zkv]; unfold z6t
      rw [ltN_t hi, okIx_t hi, ix1, addI1 (by omega), addI_in (by simp; omega) (by simp; omega)]
      have e : fcmp .neq .f32 (gF (marks k0 n) i) (fOI .f32 (k0 + Int.ofNat i)) = false := by
        show fcmp .neq .f32 ((marks k0 n).getD i 0) _ = false
        rw [marks_get hi]
        show fcmp .neq .f32 (fOI .f32 (k0 + Int.ofNat i)) (fOI .f32 (k0 + Int.ofNat i)) = false
        rw [neq_self, fOI_nan]
      have : k0 + Int.ofNat i + 1 = k0 + Int.ofNat (i + 1) := by simp; omega
      rw [e, this]; rfl)
    (fun m => by show z4t _ _ _ _ _ = _; rw [zkv]; unfold z6t; rw [ltN_f (Nat.le_refl _)]; rfl) n 0 big (by omega) (big_gt hl) with ⟨k1, k2⟩ | ⟨j, k1, k2, k3, k4⟩
  · have k2 : z4t n (marks k0 n) big k0 0 = some (Sum.inr (k0 + (n : Int), Int.ofNat n, false)) := by simpa using k2
    obtain ⟨g1, g2, g3, _⟩ := znz rfl k2
    rw [g1, g2, g3]; rfl
  · cases k3
theorem take_succ_getD {ys : List Nat} {i : Nat} (h : i < ys.length) : ys.take i ++ [ys.getD i 0] = ys.take (i + 1) := by
  rw [List.take_succ_eq_append_getElem h]; simp [List.getD_eq_getElem?_getD, h]
theorem runs {ρ : Type} {L : Nat → Int → Option ρ} {len : Nat} {e : ρ} (hs : ∀ n i, i < len → L (n + 1) (Int.ofNat i) = L n (Int.ofNat (i + 1))) (he : ∀ n, L (n + 1) (Int.ofNat len) = some e) (hl : len < 281474976710656) : L big 0 = some e := by
  have := folds (L := fun n i (_ : Unit) => L n i) (len := len) (fun _ _ => ()) (e := fun _ => e) (fun n i _ hi => hs n i hi) (fun n _ => he n) len 0 big () (by omega) (big_gt hl)
  exact this
theorem impl_areFinite_1_eq (x : Nat) : zc7 x = some (!finB x) := by
  obtain ⟨h1, h2⟩ := zfd (impl_IsFinite_eq x)
  unfold zc7 zce
  rw [h1, h2]; rfl
theorem slices_IndexFunc_areFinite {xs : List Nat} (hl : xs.length < 281474976710656) : ∃ r : Int, z5x xs.length xs = some r ∧ leI 0 r = !xs.all finB := by
  unfold z5x z5y
  rcases scan_all (L := z2d xs.length (Int.ofNat xs.length) xs) xs finB (g := fun i => Int.ofNat i) (e := (Int.ofNat xs.length, false))
    (fun n i hi => by
      rw [zac]; unfold z4l; rw [ltN_t hi, okIx_t hi, ix1, addI1 (by omega)]
      simp only [gF]
      generalize xs.getD i 0 = x
      obtain ⟨h1, h2⟩ := zqt (impl_areFinite_1_eq x)
      simp only [br_if, grd_true, h1, h2]
      rcases Bool.eq_false_or_eq_true (finB x) with h | h <;> simp [h])
    (fun n => by rw [zac]; unfold z4l; rw [ltN_f (Nat.le_refl _)]; rfl) hl with ⟨h1, h2⟩ | ⟨j, h2, h3, h4⟩
  · obtain ⟨g1, g2, _⟩ := zik rfl h2
    exact ⟨Int.negSucc 0, by rw [g1, g2]; rfl, by rw [h1]; rfl⟩
  · obtain ⟨g1, g2, g3⟩ := zih rfl h4
    exact ⟨Int.ofNat j, by rw [g1, g2, g3]; rfl, by rw [h3]; exact decide_eq_true (by simp)⟩
theorem slices_ContainsFunc_areFinite {xs : List Nat} (hl : xs.length < 281474976710656) : z5j xs.length xs = some (!xs.all finB) := by
  obtain ⟨r, h1, h2⟩ := slices_IndexFunc_areFinite hl
  obtain ⟨g1, g2⟩ := zl4 h1
  unfold z5j z5k
  rw [pF_all, g1, g2, h2]; rfl
theorem impl_areFinite_eq {xs : List Nat} (hl : xs.length < 281474976710656) : zdt xs.length xs = some (xs.all finB) := by
  obtain ⟨g1, g2⟩ := zja (slices_ContainsFunc_areFinite hl)
  unfold zdt zdw
  rw [pF_all, g1, g2]
  simp [grd_true, bnot]
def walkS {σ α β : Type} (p : Nat → σ → Bool) (f : Nat → σ → σ) (g : Nat → σ → α) (e : σ → β) : Nat → Nat → σ → α ⊕ β
  | 0, _, s => .inr (e s)
  | k + 1, i, s => if p i s = true then walkS p f g e k (i + 1) (f i s) else .inl (g i s)
theorem walks {σ α β : Type} {L : Nat → Int → σ → Option (α ⊕ β)} {len : Nat} (p : Nat → σ → Bool) (f : Nat → σ → σ) {g : Nat → σ → α} {e : σ → β}
    (hs : ∀ n i s, i < len → L (n + 1) (Int.ofNat i) s = if p i s = true then L n (Int.ofNat (i + 1)) (f i s) else some (.inl (g i s))) (he : ∀ n s, L (n + 1) (Int.ofNat len) s = some (.inr (e s))) :
    ∀ k i n s, i + k = len → k < n → L n (Int.ofNat i) s = some (walkS p f g e k i s)
  | 0, i, n, s, hk, hn => by
    obtain ⟨n, rfl⟩ : ∃ m, n = m + 1 := ⟨n - 1, by omega⟩
    obtain rfl : i = len := by omega
    exact he n s
  | k + 1, i, n, s, hk, hn => by
    obtain ⟨n, rfl⟩ : ∃ m, n = m + 1 := ⟨n - 1, by omega⟩
    rw [hs n i s (by omega)]
    unfold walkS
    cases p i s
    · simp
    · simp only [if_true]
      exact walks p f hs he k (i + 1) n (f i s) (by omega) (by omega)
theorem walkS_map {σ α β γ : Type} {p : Nat → σ → Bool} {f : Nat → σ → σ} {g : Nat → σ → α} {e : σ → β} : ∀ (k i : Nat) (s : σ), walkS p f g e k i s = (walkS p f g id k i s).map id e
  | 0, i, s => rfl
  | k + 1, i, s => by
    unfold walkS
    by_cases h : p i s = true
    · rw [if_pos h, if_pos h]; exact walkS_map (γ := γ) k (i + 1) (f i s)
    · rw [if_neg h, if_neg h]; rfl
theorem ix3 (i : Nat) : ixO 0 (Int.ofNat i) 3 = i * 3 := by simp [ixO]
theorem put1 {xs zs : List Nat} (hz : zs.length = xs.length) {j : Nat} (h : j < xs.length) : (xs.take j ++ zs.drop j).set j (xs.getD j 0) = xs.take (j + 1) ++ zs.drop (j + 1) := by
  have h1 : (xs.take j).length = j := by simp; omega
  have h2 : zs.drop j = zs[j] :: zs.drop (j + 1) := List.drop_eq_getElem_cons (by omega)
  rw [← take_succ_getD h, h2, List.set_append_right j _ (by omega), h1, Nat.sub_self, List.set_cons_zero, List.append_assoc]
  rfl
theorem put3 {xs zs : List Nat} {n i : Nat} (hx : xs.length = n * 3) (hz : zs.length = xs.length) (h : i < n) :
    ((((xs.take (i * 3) ++ zs.drop (i * 3)).set (i * 3) (xs.getD (i * 3) 0)).set (i * 3).succ (xs.getD (i * 3).succ 0)).set (i * 3).succ.succ (xs.getD (i * 3).succ.succ 0)) = xs.take ((i + 1) * 3) ++ zs.drop ((i + 1) * 3) := by
  rw [put1 hz (by omega), put1 hz (j := (i * 3).succ) (by omega), put1 hz (j := (i * 3).succ.succ) (by omega)]
  simp only [Nat.succ_eq_add_one, Nat.add_mul, Nat.one_mul]
theorem okMk_t {n b : Nat} (h : n ≤ 1099511627776) (hb : b ≤ 64) : okMk (Int.ofNat n) (Int.ofNat n) b = true := decide_eq_true ⟨rfl, by simp, by simp; omega, hb⟩
theorem laws_toStation_p_eq (a b c : Nat) : zmi a b c = true := rfl
theorem laws_toStationS_eq {xs : List Nat} {n : Nat} (hx : xs.length = n * 3) (hl : n ≤ 1099511627776) : zao n xs = some (n, xs) := by
  have hz : (rF (muN (toN (Int.ofNat n)) 3)).length = xs.length := by simp [rF, muN, hx]
  have hf := runs (L := fun m i => z58 n n xs m i (xs.take (i.toNat * 3) ++ (rF (muN (toN (Int.ofNat n)) 3)).drop (i.toNat * 3))) (len := n) (e := (Int.ofNat n, false, xs))
    (fun m i hi => by
      show z58 n n xs _ _ (xs.take (i * 3) ++ (rF (muN (toN (Int.ofNat n)) 3)).drop (i * 3)) = z58 n n xs _ _ (xs.take ((i + 1) * 3) ++ (rF (muN (toN (Int.ofNat n)) 3)).drop ((i + 1) * 3))
      rw [← put3 hx hz hi, zlh]; unfold z7u
      rw [ltN_t hi, okIx_t hi, ix3, addI1 (by omega), laws_toStation_p_eq]; rfl)
    (fun m => by
      show z58 n n xs _ _ (xs.take (n * 3) ++ (rF (muN (toN (Int.ofNat n)) 3)).drop (n * 3)) = _
      rw [zlh]; unfold z7u; rw [ltN_f (Nat.le_refl _), br_false, List.take_of_length_le (by omega), List.drop_of_length_le (by omega), List.append_nil]) (by omega)
  obtain ⟨g1, _, _, g2⟩ := zot rfl hf
  have e0 : xs.take (Int.toNat 0 * 3) ++ (rF (muN (toN (Int.ofNat n)) 3)).drop (Int.toNat 0 * 3) = rF (muN (toN (Int.ofNat n)) 3) := by simp
  rw [e0] at g1 g2
  unfold zao zdf
  rw [okMk_t hl (by omega)]
  show grd (zcu n n xs 0 (rF (muN (toN (Int.ofNat n)) 3))) (some (n, zal n n xs 0 (rF (muN (toN (Int.ofNat n)) 3)))) = _
  rw [g1, g2]; rfl
theorem laws_eqStation_refl (a b c : Nat) : zdq a b c a b c = some true := by
  obtain ⟨p1, q1⟩ := z9x (laws_sameFloat_refl (fcvV .f32 .f64 a))
  obtain ⟨p2, q2⟩ := z9x (laws_sameFloat_refl (fcvV .f32 .f64 b))
  obtain ⟨p3, q3⟩ := z9x (laws_sameFloat_refl (fcvV .f32 .f64 c))
  unfold zdq zds
  rw [p1, q1, p2, q2, p3, q3]; rfl
theorem laws_eqStationS_refl {xs : List Nat} {n : Nat} (hl : n < 281474976710656) : zdi n xs n xs = some true := by
  unfold zdi zde
  rw [neI_self]
  rcases scan (L := z64 n n xs xs) (len := n) (fun _ => true) (g := fun i => ()) (e := (Int.ofNat n, false))
    (fun m i hi => by
      rw [zld]; unfold z7t
      obtain ⟨h1, h2⟩ := zs6 (laws_eqStation_refl (gF xs (ixO 0 (Int.ofNat i) 3)) (gF xs (Nat.succ (ixO 0 (Int.ofNat i) 3))) (gF xs (Nat.succ (Nat.succ (ixO 0 (Int.ofNat i) 3)))))
      rw [ltN_t hi, okIx_t hi, addI1 (by omega), h1, h2]; rfl)
    (fun m => by rw [zld]; unfold z7t; rw [ltN_f (Nat.le_refl _)]; rfl) n 0 big (by omega) (big_gt hl) with ⟨h1, h2⟩ | ⟨j, _, h2, h3, h4⟩
  · obtain ⟨g1, g2, _⟩ := zp1 rfl h2
    show grd (zcv n n xs xs (Int.ofNat 0)) (br (zca n n xs xs (Int.ofNat 0)) _ _) = _
    rw [g1, g2]; rfl
  · cases h3
theorem laws_szStationS_eq (n : Nat) (xs : List Nat) (left : Int) : ∃ r, zd0 n xs left = some r ∧ (0 ≤ left → left ≤ 1048576 → n ≤ 9223372036854775807 → (0 ≤ r → r = left - n ∧ (n : Int) ≤ left) ∧ r ≤ 1048576) := by
  unfold zd0 zd1
  by_cases h : subI .i64 left (Int.ofNat n) < 0
  · rw [ltI_t h]
    exact ⟨_, rfl, fun _ _ _ => ⟨fun q => by simp at q, by decide⟩⟩
  · rw [ltI_f h]
    refine ⟨_, rfl, fun h1 h2 h3 => ?_⟩
    have e : subI .i64 left (Int.ofNat n) = left - n := wrap64 (by simp; omega) (by simp; omega)
    rw [e] at h ⊢
    exact ⟨fun _ => ⟨rfl, by omega⟩, by omega⟩
theorem laws_szProfile_eq {as ls ds : List Nat} {left : Int} (ha : as.length ≤ maxLen) (hl : ls.length ≤ maxLen) (hd : ds.length ≤ maxLen) (h0 : 0 ≤ left) (h1 : left ≤ 1048576) :
    ∃ r, ze1 as.length as ls.length ls ds.length ds left = some r ∧ (0 ≤ r → as.length + ls.length + ds.length ≤ 1048576) ∧ r ≤ 1048576 := by
  have hm : maxLen = 9223372036854775807 := by decide
  rw [hm] at ha hl hd
  obtain ⟨r1, h2, k1⟩ := laws_szFloat32S_eq as.length as left
  obtain ⟨p1, q1⟩ := zlw h2
  obtain ⟨k1, k1'⟩ := k1 h0 h1 ha
  obtain ⟨r2, h3, k2⟩ := laws_szFloat32S_eq ls.length ls r1
  obtain ⟨p2, q2⟩ := zlw h3
  obtain ⟨r3, h4, k3⟩ := laws_szFloat32S_eq ds.length ds r2
  obtain ⟨p3, q3⟩ := zlw h4
  unfold ze1 zdr
  simp only [pF_all, p1, q1, grd_true, p2, q2, p3, q3]
  by_cases c1 : r1 < 0
  · rw [ltI_t c1]
    exact ⟨_, rfl, fun h => by simp at h, by decide⟩
  · rw [ltI_f c1]
    obtain ⟨e1, e2⟩ := k1 (by omega)
    obtain ⟨k2, k2'⟩ := k2 (by omega) (by omega) hl
    by_cases c2 : r2 < 0
    · rw [ltI_t c2]
      exact ⟨_, rfl, fun h => by simp at h, by decide⟩
    · rw [ltI_f c2]
      obtain ⟨e3, e4⟩ := k2 (by omega)
      obtain ⟨k3, k3'⟩ := k3 (by omega) (by omega) hd
      by_cases c3 : r3 < 0
      · rw [ltI_t c3]
        exact ⟨_, rfl, fun h => by simp at h, by decide⟩
      · rw [ltI_f c3]
        obtain ⟨e5, e6⟩ := k3 (by omega)
        exact ⟨_, rfl, fun h => by omega, by omega⟩
theorem laws_toProfile_eq {as ls ds : List Nat} (ha : as.length ≤ 1099511627776) (hl : ls.length ≤ 1099511627776) (hd : ds.length ≤ 1099511627776) : z82 as.length as ls.length ls ds.length ds = some (as.length, ls.length, ds.length, as, ls, ds) := by
  obtain ⟨p1, q1, r1⟩ := zlp (laws_toFloat32S_eq ha)
  obtain ⟨p2, q2, r2⟩ := zlp (laws_toFloat32S_eq hl)
  obtain ⟨p3, q3, r3⟩ := zlp (laws_toFloat32S_eq hd)
  unfold z82 ze0
  simp only [pF_all, p1, q1, r1, p2, q2, r2, p3, q3, r3, grd_true]
theorem laws_eqProfile_refl {as ls ds : List Nat} (ha : as.length < 281474976710656) (hl : ls.length < 281474976710656) (hd : ds.length < 281474976710656) : zdy as.length as ls.length ls ds.length ds as.length as ls.length ls ds.length ds = some true := by
  obtain ⟨p1, q1⟩ := zlv (laws_eqFloat32S_refl ha)
  obtain ⟨p2, q2⟩ := zlv (laws_eqFloat32S_refl hl)
  obtain ⟨p3, q3⟩ := zlv (laws_eqFloat32S_refl hd)
  unfold zdy zdp
  simp only [pF_all, p1, q1, p2, q2, p3, q3, grd_true]
  rfl
theorem rotor_law {as ls ds st : List Nat} {n : Nat} {count : Int} {hub tip : Nat} (ma : as.length ≤ maxLen) (ml : ls.length ≤ maxLen) (md : ds.length ≤ maxLen) (z : st.length = n * 3) (mn : n ≤ maxLen) {left : Int} (h0 : 0 ≤ left) (h1 : left ≤ 1048576) :
    ∃ r, zkf as.length as ls.length ls ds.length ds n st count hub tip left = true ∧ zi5 as.length as ls.length ls ds.length ds n st count hub tip left = r ∧ r ≤ 1048576 ∧
    (r < 0 ∨ (ltI r 0 = false ∧ as.length + ls.length + ds.length + n ≤ 2097152 ∧ zjx as.length as ls.length ls ds.length ds n st count hub tip = true ∧ zi7 as.length as ls.length ls ds.length ds n st count hub tip = as.length ∧
      zhf as.length as ls.length ls ds.length ds n st count hub tip = ls.length ∧ zgy as.length as ls.length ls ds.length ds n st count hub tip = ds.length ∧ zh9 as.length as ls.length ls ds.length ds n st count hub tip = n ∧
      zi8 as.length as ls.length ls ds.length ds n st count hub tip = as ∧ zhi as.length as ls.length ls ds.length ds n st count hub tip = ls ∧ zia as.length as ls.length ls ds.length ds n st count hub tip = ds ∧ zhy as.length as ls.length ls ds.length ds n st count hub tip = st ∧
      zf9 as.length as ls.length ls ds.length ds n st count hub tip as.length as ls.length ls ds.length ds n st count hub tip = true ∧ zea as.length as ls.length ls ds.length ds n st count hub tip as.length as ls.length ls ds.length ds n st count hub tip = true)) := by
  have hm : maxLen = 9223372036854775807 := by decide
  obtain ⟨r1, h2, k1, k1'⟩ := laws_szProfile_eq ma ml md h0 h1
  obtain ⟨p1, q1⟩ := zs8 h2
  obtain ⟨r2, h3, k2⟩ := laws_szStationS_eq n st r1
  obtain ⟨p2, q2⟩ := zra h3
  have hst : pF st 0 (muN n 3) = st := pF_all3 z
  have key : zf6 as.length as ls.length ls ds.length ds n st count hub tip left = some (if r1 < 0 then -1 else if r2 < 0 then -1 else r2) := by
    unfold zf6 zfa
    simp only [pF_all, hst, p1, q1, grd_true, p2, q2]
    by_cases c1 : r1 < 0
    · rw [ltI_t c1, if_pos c1]; rfl
    · rw [ltI_f c1, if_neg c1]
      by_cases c2 : r2 < 0
      · rw [ltI_t c2, if_pos c2]; rfl
      · rw [ltI_f c2, if_neg c2]; rfl
  obtain ⟨p0, q0⟩ := zsw key
  refine ⟨_, p0, q0, ?_, ?_⟩
  · by_cases c1 : r1 < 0
    · rw [if_pos c1]; decide
    · rw [if_neg c1]
      by_cases c2 : r2 < 0
      · rw [if_pos c2]; decide
      · rw [if_neg c2]
        exact (k2 (by omega) (by omega) (by rw [hm] at mn; exact mn)).2
  · by_cases c1 : r1 < 0
    · rw [if_pos c1]; exact .inl (by decide)
    · rw [if_neg c1]
      by_cases c2 : r2 < 0
      · rw [if_pos c2]; exact .inl (by decide)
      · rw [if_neg c2]
        have l1 := k1 (by omega)
        obtain ⟨k2, _⟩ := k2 (by omega) (by omega) (by rw [hm] at mn; exact mn)
        obtain ⟨_, l2⟩ := k2 (by omega)
        obtain ⟨p3, a3, b3, c3, d3, e3, f3⟩ := zru (laws_toProfile_eq (as := as) (ls := ls) (ds := ds) (by omega) (by omega) (by omega))
        obtain ⟨p4, a4, b4⟩ := zrk (laws_toStationS_eq z (by omega))
        have kt : z7y as.length as ls.length ls ds.length ds n st count hub tip = some (as.length, ls.length, ds.length, n, as, ls, ds, st) := by
          unfold z7y zf5
          simp only [pF_all, hst, p3, a3, b3, c3, d3, e3, f3, p4, a4, b4, grd_true]
        obtain ⟨p5, q5⟩ := zn8 (laws_eqProfile_refl (as := as) (ls := ls) (ds := ds) (by omega) (by omega) (by omega))
        obtain ⟨p6, q6⟩ := zmv (laws_eqStationS_refl (xs := st) (n := n) (by omega))
        obtain ⟨p7, q7⟩ := z9x (laws_sameFloat_refl (fcvV .f32 .f64 hub))
        obtain ⟨p8, q8⟩ := z9x (laws_sameFloat_refl (fcvV .f32 .f64 tip))
        have ke : zc6 as.length as ls.length ls ds.length ds n st count hub tip as.length as ls.length ls ds.length ds n st count hub tip = some true := by
          unfold zc6 ze2
          simp only [pF_all, hst, p5, q5, p6, q6, p7, q7, p8, q8, grd_true, neI_self, bnot_true, br_false]
        obtain ⟨t0, t1, t2, t3, t4, t5, t6, t7, t8⟩ := zt2 kt
        obtain ⟨e0, e1⟩ := zoj ke
        exact .inr ⟨ltI_f c2, by omega, t0, t1, t2, t3, t4, t5, t6, t7, t8, e0, e1⟩
def knotB (as : List Nat) (j : Nat) : Bool := fromToB (as.getD j 0) 3204448256 1056964608 && (decide (j = 0) || !fcmp .leq .f32 (as.getD j 0) (as.getD (j - 1) 0))
def profB (as ls ds : List Nat) (j : Nat) : Bool := knotB as j && (finB (ls.getD j 0) && leastB (ds.getD j 0))
def validProfB (as ls ds : List Nat) : Bool := decide (2 ≤ as.length) && (decide (as.length ≤ 24) && (decide (ls.length = as.length) && (decide (ds.length = as.length) && (List.range as.length).all (profB as ls ds))))
theorem range_all {n : Nat} {p : Nat → Bool} : (List.range n).all p = true ↔ ∀ j, j < n → p j = true := by simp [List.all_eq_true]
theorem geq_leq {x y : Nat} : fcmp .geq .f32 x y = fcmp .leq .f32 y x := by
  cases hx : nanB .f32 x with
  | true => rw [(fcmp_nan .f32 (.inl hx)).2.2.2.2.2, (fcmp_nan .f32 (.inr hx)).2.2.2.1]
  | false =>
    cases hy : nanB .f32 y with
    | true => rw [(fcmp_nan .f32 (.inr hy)).2.2.2.2.2, (fcmp_nan .f32 (.inl hy)).2.2.2.1]
    | false => rw [(fcmp_num .f32 hx hy).2.2.2.2.2, (fcmp_num .f32 hy hx).2.2.2.1]
theorem ltN0 (i : Nat) : ltI 0 (Int.ofNat i) = !decide (i = 0) := by
  rw [show ltI 0 (Int.ofNat i) = decide (0 < i) from ltN 0 i]
  by_cases h : i = 0
  · rw [decide_eq_true h, decide_eq_false (by omega)]; rfl
  · rw [decide_eq_false h, decide_eq_true (by omega)]; rfl
theorem subN1 {i : Nat} (h : i ≠ 0) (h2 : i < 4611686018427387904) : subI .i64 (Int.ofNat i) 1 = Int.ofNat (i - 1) := by
  have : subI .i64 (Int.ofNat i) 1 = (i : Int) - 1 := wrap64 (by simp; omega) (by simp; omega)
  rw [this]; simp; omega
theorem impl_ValidProfile_loop {as : List Nat} (hl : as.length ≤ 24) :
    z91 as.length (Int.ofNat as.length) as as.length 0 = true ∧ z8c as.length (Int.ofNat as.length) as as.length 0 = !(List.range as.length).all (knotB as) := by
  rcases scan (L := z5c as.length (Int.ofNat as.length) as as.length) (len := as.length) (knotB as) (g := fun _ => ()) (e := (Int.ofNat as.length, false))
    (fun n i hi => by
      rw [zks]; unfold z6s
      obtain ⟨p1, q1⟩ := zsn (impl_isFromTo_eq (as.getD i 0) 3204448256 1056964608)
      rw [ltN_t hi, okIx_t hi, ix1, addI1 (by omega), ltN0]
      simp only [gF, p1, q1, grd_true, br_true]
      unfold knotB
      by_cases h0 : i = 0
      · subst h0
        cases fromToB (as.getD 0 0) 3204448256 1056964608 <;> rfl
      · rw [subN1 h0 (by omega), okIx_t (show i - 1 < as.length by omega), ix1, geq_leq, decide_eq_false h0]
        cases fromToB (as.getD i 0) 3204448256 1056964608
        · rfl
        · cases fcmp .leq .f32 (as.getD i 0) (as.getD (i - 1) 0) <;> rfl)
    (fun n => by rw [zks]; unfold z6s; rw [ltN_f (Nat.le_refl _)]; rfl) as.length 0 big (by omega) (big_gt (by omega)) with ⟨h1, h2⟩ | ⟨j, _, h2, h3, h4⟩
  · obtain ⟨g1, g2, _⟩ := zo0 rfl h2
    rw [range_all.2 fun j hj => h1 j (Nat.zero_le _) hj]
    exact ⟨g1, g2⟩
  · obtain ⟨g1, g2⟩ := znn rfl h4
    have : (List.range as.length).all (knotB as) = false := by
      cases hh : (List.range as.length).all (knotB as) with
      | false => rfl
      | true => rw [range_all.1 hh j h2] at h3; cases h3
    rw [this]
    exact ⟨g1, g2⟩
theorem all_getD {xs : List Nat} {p : Nat → Bool} : xs.all p = true ↔ ∀ j, j < xs.length → p (xs.getD j 0) = true := by
  rw [List.all_eq_true]
  constructor
  · intro h j hj; exact h _ (get_mem hj)
  · intro h x hx
    obtain ⟨i, hi, rfl⟩ := List.getElem_of_mem hx
    have := h i hi
    simpa [List.getD_eq_getElem?_getD, hi] using this
theorem ltN2 (n : Nat) : ltI (Int.ofNat n) 2 = !decide (2 ≤ n) := by
  rw [show ltI (Int.ofNat n) 2 = decide (n < 2) from ltN n 2]
  by_cases h : 2 ≤ n
  · rw [decide_eq_true h, decide_eq_false (by omega)]; rfl
  · rw [decide_eq_false h, decide_eq_true (by omega)]; rfl
theorem gtN (c n : Nat) : ltI (Int.ofNat c) (Int.ofNat n) = !decide (n ≤ c) := by
  rw [ltN]
  by_cases h : n ≤ c
  · rw [decide_eq_true h, decide_eq_false (by omega)]; rfl
  · rw [decide_eq_false h, decide_eq_true (by omega)]; rfl
theorem neN (m n : Nat) : neI (Int.ofNat m) (Int.ofNat n) = !decide (m = n) := by
  unfold neI
  by_cases h : m = n
  · subst h; simp
  · rw [decide_eq_false h]; simp; omega
theorem impl_ValidProfile_eq {as ls ds : List Nat} (hl : ls.length < 281474976710656) (hd : ds.length < 281474976710656) : zb2 as.length as ls.length ls ds.length ds = some (validProfB as ls ds) := by
  obtain ⟨p1, q1⟩ := zs0 (impl_areFinite_eq hl)
  obtain ⟨p2, q2⟩ := zsh (impl_areLeast_eq hd)
  unfold zb2 zb4 validProfB
  rw [ltN2, show ltI 24 (Int.ofNat as.length) = !decide (as.length ≤ 24) from gtN 24 _, neN, neN]
  simp only [pF_all, p1, q1, p2, q2, grd_true]
  by_cases c1 : 2 ≤ as.length
  · by_cases c2 : as.length ≤ 24
    · by_cases c3 : ls.length = as.length
      · by_cases c4 : ds.length = as.length
        · obtain ⟨g1, g2⟩ := impl_ValidProfile_loop c2
          rw [decide_eq_true c1, decide_eq_true c2, decide_eq_true c3, decide_eq_true c4, g1, g2]
          have key : (List.range as.length).all (profB as ls ds) = (ls.all finB && (ds.all leastB && (List.range as.length).all (knotB as))) := by
            rw [Bool.eq_iff_iff, Bool.and_eq_true, Bool.and_eq_true, range_all, range_all, all_getD, all_getD, c3, c4]
            constructor
            · intro h
              refine ⟨fun j hj => ?_, fun j hj => ?_, fun j hj => ?_⟩
              all_goals have := h j hj; unfold profB at this; simp only [Bool.and_eq_true] at this
              · exact this.2.1
              · exact this.2.2
              · exact this.1
            · rintro ⟨h1, h2, h3⟩ j hj
              unfold profB
              rw [h1 j hj, h2 j hj, h3 j hj]; rfl
          rw [key]
          cases ls.all finB <;> cases ds.all leastB <;> cases (List.range as.length).all (knotB as) <;> rfl
        · rw [decide_eq_false c4]
          rw [decide_eq_true c1, decide_eq_true c2, decide_eq_true c3]; rfl
      · rw [decide_eq_false c3]
        rw [decide_eq_true c1, decide_eq_true c2]; rfl
    · rw [decide_eq_false c2]
      rw [decide_eq_true c1]; rfl
  · rw [decide_eq_false c1]; rfl
theorem spec_l02Is_eq {as ls ds : List Nat} : zkc as.length as ls.length ls ds.length ds = some (validProfB as ls ds) := by
  unfold zkc zjz validProfB
  rw [ltN2, show ltI 24 (Int.ofNat as.length) = !decide (as.length ≤ 24) from gtN 24 _, neN, neN]
  by_cases c1 : 2 ≤ as.length
  · by_cases c2 : as.length ≤ 24
    · by_cases c3 : ls.length = as.length
      · by_cases c4 : ds.length = as.length
        · rw [decide_eq_true c1, decide_eq_true c2, decide_eq_true c3, decide_eq_true c4]
          rcases scan (L := z7e (Int.ofNat as.length) as ls ds as.length ls.length ds.length) (len := as.length) (profB as ls ds) (g := fun _ => ()) (e := (Int.ofNat as.length, false))
            (fun n i hi => by
              rw [zmk]; unfold za2
              obtain ⟨p1, q1⟩ := zel (spec_l01Finite_eq (ls.getD i 0))
              obtain ⟨p2, q2⟩ := znh (spec_l02Least_eq (ds.getD i 0))
              rw [ltN_t hi, okIx_t hi, ix1, addI1 (by omega), ltN0, okIx_t (show i < ls.length by omega), okIx_t (show i < ds.length by omega)]
              simp only [gF, p1, q1, p2, q2, grd_true, br_true]
              unfold profB knotB fromToB
              by_cases h0 : i = 0
              · subst h0
                cases fcmp .geq .f32 (as.getD 0 0) 3204448256 <;> cases fcmp .leq .f32 (as.getD 0 0) 1056964608 <;> cases finB (ls.getD 0 0) <;> cases leastB (ds.getD 0 0) <;> rfl
              · rw [subN1 h0 (by omega), okIx_t (show i - 1 < as.length by omega), ix1, decide_eq_false h0]
                cases fcmp .geq .f32 (as.getD i 0) 3204448256 <;> cases fcmp .leq .f32 (as.getD i 0) 1056964608 <;> cases fcmp .leq .f32 (as.getD i 0) (as.getD (i - 1) 0) <;> cases finB (ls.getD i 0) <;> cases leastB (ds.getD i 0) <;> rfl)
            (fun n => by rw [zmk]; unfold za2; rw [ltN_f (Nat.le_refl _)]; rfl) as.length 0 big (by omega) (big_gt (by omega)) with ⟨h1, h2⟩ | ⟨j, _, h2, h3, h4⟩
          · obtain ⟨g1, g2, _⟩ := zrx rfl h2
            rw [range_all.2 fun j hj => h1 j (Nat.zero_le _) hj]
            show grd (zaw (Int.ofNat as.length) as ls ds as.length ls.length ds.length (Int.ofNat 0)) (br (zaa (Int.ofNat as.length) as ls ds as.length ls.length ds.length (Int.ofNat 0)) _ _) = _
            rw [g1, g2]; rfl
          · obtain ⟨g1, g2⟩ := zs3 rfl h4
            have : (List.range as.length).all (profB as ls ds) = false := by
              cases hh : (List.range as.length).all (profB as ls ds) with
              | false => rfl
              | true => rw [range_all.1 hh j h2] at h3; cases h3
            rw [this]
            show grd (zaw (Int.ofNat as.length) as ls ds as.length ls.length ds.length (Int.ofNat 0)) (br (zaa (Int.ofNat as.length) as ls ds as.length ls.length ds.length (Int.ofNat 0)) _ _) = _
            rw [g1, g2]; rfl
        · rw [decide_eq_false c4]
          rw [decide_eq_true c1, decide_eq_true c2, decide_eq_true c3]; rfl
      · rw [decide_eq_false c3]
        rw [decide_eq_true c1, decide_eq_true c2]; rfl
    · rw [decide_eq_false c2]
      rw [decide_eq_true c1]; rfl
  · rw [decide_eq_false c1]; rfl
def ringP (st : List Nat) (tip : Nat) (i s : Nat) : Bool := fcmp .gtr .f32 (st.getD (i * 3) 0) s && (fcmp .lss .f32 (st.getD (i * 3) 0) tip && (posB (st.getD (i * 3).succ 0) && finB (st.getD (i * 3).succ.succ 0)))
def ringsW (st : List Nat) (n hub tip : Nat) : Unit ⊕ Nat := walkS (ringP st tip) (fun i _ => st.getD (i * 3) 0) (fun _ _ => ()) id n 0 hub
def validRotorB (as ls ds st : List Nat) (n : Nat) (count : Int) (hub tip : Nat) : Bool :=
  validProfB as ls ds && (inB count 1 6 && (decide (2 ≤ n) && (decide (n ≤ 12) && (leastB hub && (finB tip && (ringsW st n hub tip).isRight)))))
theorem impl_ValidRotor_loop {st : List Nat} {n hub tip : Nat} (hl : n ≤ 12) : z9j n (Int.ofNat n) st tip hub 0 = true ∧ z9a n (Int.ofNat n) st tip hub 0 = !(ringsW st n hub tip).isRight := by
  have hf := walks (L := fun m i s => z4v n (Int.ofNat n) st tip m s i) (len := n) (ringP st tip) (fun i _ => st.getD (i * 3) 0) (g := fun _ _ => ()) (e := fun s => (s, Int.ofNat n, false))
    (fun m i s hi => by
      show z4v _ _ _ _ _ _ _ = if _ then z4v _ _ _ _ _ _ _ else _
      rw [zlg]; unfold z7v
      obtain ⟨p1, q1⟩ := zr0 (show za9 1 (pF [st.getD (i * 3).succ 0] 0 (muN 1 1)) = some (posB (st.getD (i * 3).succ 0)) by
        have := impl_arePositive_eq (xs := [st.getD (i * 3).succ 0]) (by simp)
        simpa [pF, muN] using this)
      obtain ⟨p2, q2⟩ := zfd (impl_IsFinite_eq (st.getD (i * 3).succ.succ 0))
      rw [ltN_t hi, okIx_t hi, ix3, addI1 (by omega)]
      simp only [gF, p1, q1, p2, q2, grd_true, br_true]
      unfold ringP
      cases fcmp .gtr .f32 (st.getD (i * 3) 0) s <;> cases fcmp .lss .f32 (st.getD (i * 3) 0) tip <;> cases posB (st.getD (i * 3).succ 0) <;> cases finB (st.getD (i * 3).succ.succ 0) <;> rfl)
    (fun m s => by show z4v _ _ _ _ _ _ _ = _; rw [zlg]; unfold z7v; rw [ltN_f (Nat.le_refl _)]; rfl) n 0 big hub (by omega) (big_gt (by omega))
  rw [walkS_map (γ := Unit)] at hf
  have hw : ringsW st n hub tip = walkS (ringP st tip) (fun i _ => st.getD (i * 3) 0) (fun _ _ => ()) id n 0 hub := rfl
  rw [← hw] at hf
  cases hc : ringsW st n hub tip with
  | inl u => rw [hc] at hf; obtain ⟨g1, g2⟩ := zow rfl hf; exact ⟨g1, g2⟩
  | inr s => rw [hc] at hf; obtain ⟨g1, g2, _⟩ := zp0 rfl hf; exact ⟨g1, g2⟩
theorem spec_l03Is_loop {st : List Nat} {n hub tip : Nat} (hl : n ≤ 12) : zcs (Int.ofNat n) st n tip hub 0 = true ∧ zc3 (Int.ofNat n) st n tip hub 0 = !(ringsW st n hub tip).isRight := by
  have hf := walks (L := fun m i s => z5z (Int.ofNat n) st n tip m s i) (len := n) (ringP st tip) (fun i _ => st.getD (i * 3) 0) (g := fun _ _ => ()) (e := fun s => (s, Int.ofNat n, false))
    (fun m i s hi => by
      show z5z _ _ _ _ _ _ _ = if _ then z5z _ _ _ _ _ _ _ else _
      rw [zml]; unfold za1
      obtain ⟨p1, q1⟩ := zsm (spec_l02Above_eq (st.getD (i * 3).succ 0))
      obtain ⟨p2, q2⟩ := zel (spec_l01Finite_eq (st.getD (i * 3).succ.succ 0))
      rw [ltN_t hi, okIx_t hi, ix3, addI1 (by omega)]
      simp only [gF, p1, q1, p2, q2, grd_true, br_true]
      unfold ringP
      cases fcmp .gtr .f32 (st.getD (i * 3) 0) s <;> cases fcmp .lss .f32 (st.getD (i * 3) 0) tip <;> cases posB (st.getD (i * 3).succ 0) <;> cases finB (st.getD (i * 3).succ.succ 0) <;> rfl)
    (fun m s => by show z5z _ _ _ _ _ _ _ = _; rw [zml]; unfold za1; rw [ltN_f (Nat.le_refl _)]; rfl) n 0 big hub (by omega) (big_gt (by omega))
  rw [walkS_map (γ := Unit)] at hf
  have hw : ringsW st n hub tip = walkS (ringP st tip) (fun i _ => st.getD (i * 3) 0) (fun _ _ => ()) id n 0 hub := rfl
  rw [← hw] at hf
  cases hc : ringsW st n hub tip with
  | inl u => rw [hc] at hf; obtain ⟨g1, g2⟩ := zs1 rfl hf; exact ⟨g1, g2⟩
  | inr s => rw [hc] at hf; obtain ⟨g1, g2, _⟩ := zry rfl hf; exact ⟨g1, g2⟩
theorem impl_ValidRotor_eq {as ls ds st : List Nat} {n : Nat} {count : Int} {hub tip : Nat} (hl : ls.length < 281474976710656) (hd : ds.length < 281474976710656) :
    zd4 as.length as ls.length ls ds.length ds n st count hub tip = some (validRotorB as ls ds st n count hub tip) := by
  obtain ⟨p1, q1⟩ := zq9 (impl_ValidProfile_eq (as := as) hl hd)
  obtain ⟨p2, q2⟩ := zt5 (impl_within_eq count 1 6)
  obtain ⟨p3, q3⟩ := zod (impl_isLeast_eq hub)
  obtain ⟨p4, q4⟩ := zfd (impl_IsFinite_eq tip)
  unfold zd4 zd5 validRotorB
  rw [ltN2, show ltI 12 (Int.ofNat n) = !decide (n ≤ 12) from gtN 12 _]
  simp only [pF_all, p1, q1, p2, q2, p3, q3, p4, q4, grd_true]
  by_cases c2 : n ≤ 12
  · obtain ⟨g1, g2⟩ := impl_ValidRotor_loop (st := st) (hub := hub) (tip := tip) c2
    rw [g1, g2, decide_eq_true c2]
    cases validProfB as ls ds <;> cases inB count 1 6 <;> cases decide (2 ≤ n) <;> cases leastB hub <;> cases finB tip <;> cases (ringsW st n hub tip).isRight <;> rfl
  · rw [decide_eq_false c2]
    cases validProfB as ls ds <;> cases inB count 1 6 <;> cases decide (2 ≤ n) <;> rfl
theorem spec_l03Is_eq {as ls ds st : List Nat} {n : Nat} {count : Int} {hub tip : Nat} :
    zk3 as.length as ls.length ls ds.length ds n st count hub tip = some (validRotorB as ls ds st n count hub tip) := by
  obtain ⟨p1, q1⟩ := ztd (spec_l02Is_eq (as := as) (ls := ls) (ds := ds))
  obtain ⟨p2, q2⟩ := zte (spec_l00In_eq count 1 6)
  obtain ⟨p3, q3⟩ := znh (spec_l02Least_eq hub)
  obtain ⟨p4, q4⟩ := zel (spec_l01Finite_eq tip)
  unfold zk3 zjy validRotorB
  rw [ltN2, show ltI 12 (Int.ofNat n) = !decide (n ≤ 12) from gtN 12 _]
  simp only [pF_all, p1, q1, p2, q2, p3, q3, p4, q4, grd_true]
  by_cases c2 : n ≤ 12
  · obtain ⟨g1, g2⟩ := spec_l03Is_loop (st := st) (hub := hub) (tip := tip) c2
    rw [g1, g2, decide_eq_true c2]
    cases validProfB as ls ds <;> cases inB count 1 6 <;> cases decide (2 ≤ n) <;> cases leastB hub <;> cases finB tip <;> cases (ringsW st n hub tip).isRight <;> rfl
  · rw [decide_eq_false c2]
    cases validProfB as ls ds <;> cases inB count 1 6 <;> cases decide (2 ≤ n) <;> rfl
theorem marks_pF (k0 : Int) (m : Nat) : pF (marks k0 m) 0 (muN m 1) = marks k0 m := by
  have := pF_all (marks k0 m); rw [marks_length] at this; exact this
theorem unk_same {R : Type} {c : Bool} {x y : Option R} (h : c = true → x = y) : unk c x y = y := by
  unfold unk
  cases c
  · rfl
  · rw [h rfl]; simp
theorem slices_Clone_eq {xs : List Nat} (hl : xs.length ≤ 1099511627776) : z88 xs.length xs = some (xs.length, xs) := by
  have ho : okA2 0 xs.length 4 (nF xs) (nF []) 1 = true := decide_eq_true ⟨by omega, by omega, by simp [nF], by simp [nF]⟩
  unfold z88 z9g
  rw [pF_all, ho, unk_same]
  · show some (0 + xs.length, xs) = _
    rw [Nat.zero_add]
  · intro h
    have h0 : xs.length = 0 := of_decide_eq_true h
    obtain rfl := List.eq_nil_of_length_eq_zero h0
    rfl
theorem impl_copyProfile_eq {as ls ds : List Nat} (ha : as.length ≤ 1099511627776) (hl : ls.length ≤ 1099511627776) (hd : ds.length ≤ 1099511627776) :
    z6y as.length as ls.length ls ds.length ds = some (as.length, ls.length, ds.length, as, ls, ds) := by
  obtain ⟨p1, q1, r1⟩ := zfj (slices_Clone_eq ha)
  obtain ⟨p2, q2, r2⟩ := zfj (slices_Clone_eq hl)
  obtain ⟨p3, q3, r3⟩ := zfj (slices_Clone_eq hd)
  unfold z6y zci
  simp only [pF_all, p1, q1, r1, p2, q2, r2, p3, q3, r3, grd_true]
theorem validProfB_len {as ls ds : List Nat} (h : validProfB as ls ds = true) : 2 ≤ as.length ∧ as.length ≤ 24 ∧ ls.length = as.length ∧ ds.length = as.length := by
  unfold validProfB at h
  simp only [Bool.and_eq_true, decide_eq_true_eq] at h
  exact ⟨h.1, h.2.1, h.2.2.1, h.2.2.2.1⟩
theorem laws_heldProfile_eq {k0 : Int} {l m n : Nat} (hk : 0 ≤ k0) (hk2 : k0 + (l : Int) + (m : Int) ≤ 1099511627776) (hl : l < 281474976710656) (hm : m < 281474976710656) (hn : n < 281474976710656) :
    zcd l (marks k0 l) m (marks (k0 + (l : Int)) m) n (marks (k0 + (l : Int) + (m : Int)) n) k0 = some (k0 + (l : Int) + (m : Int) + (n : Int)) := by
  obtain ⟨p1, q1⟩ := zl0 (laws_heldFloat32S_eq (k0 := k0) (n := l) hk (by omega) hl)
  obtain ⟨p2, q2⟩ := zl0 (laws_heldFloat32S_eq (k0 := k0 + (l : Int)) (n := m) (by omega) (by omega) hm)
  obtain ⟨p3, q3⟩ := zl0 (laws_heldFloat32S_eq (k0 := k0 + (l : Int) + (m : Int)) (n := n) (by omega) hk2 hn)
  have l1 : ltI (k0 + (l : Int)) 0 = false := ltI_f (by omega)
  have l2 : ltI (k0 + (l : Int) + (m : Int)) 0 = false := ltI_f (by omega)
  have l3 : ltI (k0 + (l : Int) + (m : Int) + (n : Int)) 0 = false := ltI_f (by omega)
  unfold zcd zcf
  simp only [marks_pF, p1, q1, l1, p2, q2, l2, p3, q3, l3, grd_true, br_false]
theorem valid_n {as ls ds st : List Nat} {n : Nat} {count : Int} {hub tip : Nat} (h : validRotorB as ls ds st n count hub tip = true) : n ≤ 12 := by
  unfold validRotorB at h
  simp only [Bool.and_eq_true, decide_eq_true_eq] at h
  exact h.2.2.2.1
theorem slices_Clone_station_eq {xs : List Nat} {n : Nat} (z : xs.length = n * 3) (hl : n ≤ 1099511627776) : z55 n xs = some (n, xs) := by
  have hst : pF xs 0 (muN n 3) = xs := pF_all3 z
  have ho : okA2 0 n 12 (nF xs) (nF []) 3 = true := decide_eq_true ⟨by omega, by omega, by simp [nF, z], by simp [nF]⟩
  unfold z55 z5p
  rw [hst, ho, unk_same]
  · show some (0 + n, xs) = _
    rw [Nat.zero_add]
  · intro h
    have h0 : n = 0 := of_decide_eq_true h
    subst h0
    obtain rfl := List.eq_nil_of_length_eq_zero (show xs.length = 0 by omega)
    rfl
theorem impl_copyRotor_eq {as ls ds st : List Nat} {n : Nat} {count : Int} {hub tip : Nat} (ha : as.length ≤ 1099511627776) (hl : ls.length ≤ 1099511627776) (hd : ds.length ≤ 1099511627776) (z : st.length = n * 3) (hn : n ≤ 1099511627776) :
    z6p as.length as ls.length ls ds.length ds n st count hub tip = some (as.length, ls.length, ds.length, n, as, ls, ds, st) := by
  have hst : pF st 0 (muN n 3) = st := pF_all3 z
  obtain ⟨e0, e1, e2, e3, e4, e5, e6⟩ := zqu (impl_copyProfile_eq ha hl hd)
  obtain ⟨c0, c1, c2⟩ := zk0 (slices_Clone_station_eq z hn)
  unfold z6p zdx
  simp only [pF_all, hst, e0, e1, e2, e3, e4, e5, e6, c0, c1, c2, grd_true]
theorem spec_l02Own_eq {as ls ds : List Nat} (ha : as.length ≤ 1099511627776) (hl : ls.length ≤ 1099511627776) (hd : ds.length ≤ 1099511627776) :
    z9q as.length as ls.length ls ds.length ds = some (as.length, ls.length, ds.length, as, ls, ds) := by
  have h1 : okA2 0 as.length 4 (nF as) (nF []) 1 = true := decide_eq_true ⟨by omega, by omega, by simp [nF], by simp [nF]⟩
  have h2 : okA2 0 ls.length 4 (nF ls) (nF []) 1 = true := decide_eq_true ⟨by omega, by omega, by simp [nF], by simp [nF]⟩
  have h3 : okA2 0 ds.length 4 (nF ds) (nF []) 1 = true := decide_eq_true ⟨by omega, by omega, by simp [nF], by simp [nF]⟩
  unfold z9q zgu
  simp only [pF_all, h1, h2, h3, grd_true, adN, Nat.zero_add, aF, List.nil_append]
theorem spec_l03Own_eq {as ls ds st : List Nat} {n : Nat} {count : Int} {hub tip : Nat} (ha : as.length ≤ 1099511627776) (hl : ls.length ≤ 1099511627776) (hd : ds.length ≤ 1099511627776) (z : st.length = n * 3) (hn : n ≤ 1099511627776) :
    z8m as.length as ls.length ls ds.length ds n st count hub tip = some (as.length, ls.length, ds.length, n, as, ls, ds, st) := by
  have hst : pF st 0 (muN n 3) = st := pF_all3 z
  have ho : okA2 0 n 12 (nF st) (nF []) 3 = true := decide_eq_true ⟨by omega, by omega, by simp [nF, z], by simp [nF]⟩
  obtain ⟨e0, e1, e2, e3, e4, e5, e6⟩ := zta (spec_l02Own_eq ha hl hd)
  unfold z8m zgr
  simp only [pF_all, hst, e0, e1, e2, e3, e4, e5, e6, ho, grd_true, adN, Nat.zero_add, aF, List.nil_append]
abbrev RotR := Nat × Nat × Nat × Nat × Int × Nat × Nat × Bool × List Nat × List Nat × List Nat × List Nat
def noneR : RotR := (0, 0, 0, 0, 0, 0, 0, false, [], [], [], [])
def giveR (as ls ds st : List Nat) (n : Nat) (count : Int) (hub tip : Nat) : RotR :=
  if validRotorB as ls ds st n count hub tip = true then (as.length, ls.length, ds.length, n, count, hub, tip, true, as, ls, ds, st) else noneR
/-- What is given back is sound: the rows have their lengths. -/
def RotOk (R : RotR) : Prop := R.2.2.2.2.2.2.2.2.1.length = R.1 ∧ R.2.2.2.2.2.2.2.2.2.1.length = R.2.1 ∧ R.2.2.2.2.2.2.2.2.2.2.1.length = R.2.2.1 ∧ R.2.2.2.2.2.2.2.2.2.2.2.length = R.2.2.2.1 * 3 ∧ R.1 ≤ 24 ∧ R.2.1 ≤ 24 ∧ R.2.2.1 ≤ 24 ∧ R.2.2.2.1 ≤ 12
theorem noneR_ok : RotOk noneR := by unfold RotOk noneR; simp
theorem giveR_ok {as ls ds st : List Nat} {n : Nat} {count : Int} {hub tip : Nat} (z : st.length = n * 3) : RotOk (giveR as ls ds st n count hub tip) := by
  unfold giveR
  split
  · rename_i h
    have hn := valid_n h
    have hv : validProfB as ls ds = true := by
      unfold validRotorB at h
      simp only [Bool.and_eq_true] at h
      exact h.1
    obtain ⟨_, c2, c3, c4⟩ := validProfB_len hv
    exact ⟨rfl, rfl, rfl, z, c2, by show ls.length ≤ 24; omega, by show ds.length ≤ 24; omega, hn⟩
  · exact noneR_ok
theorem fold_len {f : Nat → List Nat → List Nat} (h : ∀ i s, (f i s).length = s.length) : ∀ k i (s : List Nat), ((List.range' i k).foldl (fun s j => f j s) s).length = s.length
  | 0, i, s => by simp
  | k + 1, i, s => by rw [List.range'_succ, List.foldl_cons, fold_len h k (i + 1), h]
def scaleF (y : Nat) (st : List Nat) (i : Nat) (s : List Nat) : List Nat := (s.set (i * 3) (fop .mul .f32 y (st.getD (i * 3) 0))).set (Nat.succ (i * 3)) (fop .mul .f32 y (st.getD (Nat.succ (i * 3)) 0))
def scaleL (y : Nat) (st : List Nat) (n : Nat) : List Nat := (List.range' 0 n).foldl (fun s j => scaleF y st j s) st
theorem scaleL_len (y : Nat) {st : List Nat} {n : Nat} (z : st.length = n * 3) : (scaleL y st n).length = n * 3 := by
  unfold scaleL; rw [fold_len (fun i s => by unfold scaleF; simp), z]
theorem impl_Scale_loop (y : Nat) (st : List Nat) {n : Nat} (hn : n ≤ 1099511627776) : z54 y n (Int.ofNat n) st n big 0 st = some (Int.ofNat n, false, scaleL y st n) :=
  folds (L := fun m i s => z54 y n (Int.ofNat n) st n m i s) (len := n) (scaleF y st) (e := fun s => (Int.ofNat n, false, s))
    (fun m i s hi => by
      show z54 _ _ _ _ _ _ _ _ = z54 _ _ _ _ _ _ _ _
      rw [zlj]; unfold z7s
      rw [ltN_t hi, okIx_t hi, ix3, addI1 (by omega)]; rfl)
    (fun m s => by show z54 _ _ _ _ _ _ _ _ = _; rw [zlj]; unfold z7s; rw [ltN_f (Nat.le_refl _)]; rfl) n 0 big st (by omega) (big_gt (by omega))
theorem spec_Scale_loop (y : Nat) (st : List Nat) {n : Nat} (hn : n ≤ 1099511627776) : z53 y (Int.ofNat n) st n n big 0 st = some (Int.ofNat n, false, scaleL y st n) :=
  folds (L := fun m i s => z53 y (Int.ofNat n) st n n m i s) (len := n) (scaleF y st) (e := fun s => (Int.ofNat n, false, s))
    (fun m i s hi => by
      show z53 _ _ _ _ _ _ _ _ = z53 _ _ _ _ _ _ _ _
      rw [zlf]; unfold z7r
      rw [ltN_t hi, okIx_t hi, ix3, addI1 (by omega)]; rfl)
    (fun m s => by show z53 _ _ _ _ _ _ _ _ = _; rw [zlf]; unfold z7r; rw [ltN_f (Nat.le_refl _)]; rfl) n 0 big st (by omega) (big_gt (by omega))
def scaleR (as ls ds st : List Nat) (n : Nat) (count : Int) (hub tip : Nat) (y : Nat) : RotR :=
  if validRotorB as ls ds st n count hub tip = true then giveR as ls ds (scaleL y st n) n count (fop .mul .f32 y hub) (fop .mul .f32 y tip) else noneR
theorem scaleR_ok {as ls ds st : List Nat} {n : Nat} {count : Int} {hub tip : Nat} (y : Nat) (z : st.length = n * 3) : RotOk (scaleR as ls ds st n count hub tip y) := by
  unfold scaleR
  split
  · exact giveR_ok (scaleL_len y z)
  · exact noneR_ok
theorem impl_ScaleRotor_eq {as ls ds st : List Nat} {n : Nat} {count : Int} {hub tip : Nat} (y : Nat) (ha : as.length ≤ 1099511627776) (hl : ls.length ≤ 1099511627776) (hd : ds.length ≤ 1099511627776) (z : st.length = n * 3) (hn : n ≤ 1099511627776) :
    z5g as.length as ls.length ls ds.length ds n st count hub tip y = some (scaleR as ls ds st n count hub tip y) := by
  have hst : pF st 0 (muN n 3) = st := pF_all3 z
  have hs : pF (scaleL y st n) 0 (muN n 3) = scaleL y st n := pF_all3 (scaleL_len y z)
  obtain ⟨p1, q1⟩ := zms (impl_ValidRotor_eq (as := as) (st := st) (n := n) (count := count) (hub := hub) (tip := tip) (show ls.length < 281474976710656 by omega) (show ds.length < 281474976710656 by omega))
  obtain ⟨e0, e1, e2, e3, e4, e5, e6, e7, e8⟩ := zs2 (impl_copyRotor_eq (count := count) (hub := hub) (tip := tip) ha hl hd z hn)
  obtain ⟨p3, q3⟩ := zms (impl_ValidRotor_eq (as := as) (st := scaleL y st n) (n := n) (count := count) (hub := fop .mul .f32 y hub) (tip := fop .mul .f32 y tip) (show ls.length < 281474976710656 by omega) (show ds.length < 281474976710656 by omega))
  obtain ⟨g1, _, _, g2⟩ := zop rfl (impl_Scale_loop y st hn)
  unfold z5g zd6 scaleR
  simp only [pF_all, hst, p1, q1, grd_true]
  cases validRotorB as ls ds st n count hub tip
  · rfl
  · simp only [e0, e1, e2, e3, e4, e5, e6, e7, e8, pF_all, hst, g1, g2, hs, p3, q3, grd_true, bnot_true, br_false, if_true]
    unfold giveR
    cases validRotorB as ls ds (scaleL y st n) n count (fop .mul .f32 y hub) (fop .mul .f32 y tip) <;> rfl
theorem spec_ScaleRotor_eq {as ls ds st : List Nat} {n : Nat} {count : Int} {hub tip : Nat} (y : Nat) (ha : as.length ≤ 1099511627776) (hl : ls.length ≤ 1099511627776) (hd : ds.length ≤ 1099511627776) (z : st.length = n * 3) (hn : n ≤ 1099511627776) :
    z5f as.length as ls.length ls ds.length ds n st count hub tip y = some (scaleR as ls ds st n count hub tip y) := by
  have hst : pF st 0 (muN n 3) = st := pF_all3 z
  have hs : pF (scaleL y st n) 0 (muN n 3) = scaleL y st n := pF_all3 (scaleL_len y z)
  obtain ⟨p1, q1⟩ := zqq (spec_l03Is_eq (as := as) (ls := ls) (ds := ds) (st := st) (n := n) (count := count) (hub := hub) (tip := tip))
  obtain ⟨e0, e1, e2, e3, e4, e5, e6, e7, e8⟩ := zt9 (spec_l03Own_eq (count := count) (hub := hub) (tip := tip) ha hl hd z hn)
  obtain ⟨p3, q3⟩ := zqq (spec_l03Is_eq (as := as) (ls := ls) (ds := ds) (st := scaleL y st n) (n := n) (count := count) (hub := fop .mul .f32 y hub) (tip := fop .mul .f32 y tip))
  obtain ⟨g1, _, _, g2⟩ := zou rfl (spec_Scale_loop y st hn)
  unfold z5f zdg scaleR
  simp only [pF_all, hst, p1, q1, grd_true]
  cases validRotorB as ls ds st n count hub tip
  · rfl
  · simp only [e0, e1, e2, e3, e4, e5, e6, e7, e8, pF_all, hst, g1, g2, hs, p3, q3, grd_true, bnot_true, br_false, if_true]
    unfold giveR
    cases validRotorB as ls ds (scaleL y st n) n count (fop .mul .f32 y hub) (fop .mul .f32 y tip) <;> rfl
theorem addI_in2 {k : Int} (h0 : 0 ≤ k) (h1 : k ≤ 4611686018427387904) : addI .i64 k 1 = k + 1 := addI_in (by omega) (by omega)
theorem mark_loop3 {L : Nat → Int → Int → List Nat → Option (Int × Int × Bool × List Nat)} {n : Nat} {k0 : Int} {ys : List Nat} (hy : ys.length = n * 3) (hk : 0 ≤ k0) (hk2 : k0 ≤ 1099511627776) (hl : n ≤ 1099511627776)
    (hs : ∀ m k i b, okIx i n = true → ltI i (Int.ofNat n) = true → L (m + 1) k i b = L m (addI .i64 (addI .i64 (addI .i64 k 1) 1) 1) (addI .i64 i 1) (sF (sF (sF b (ixO 0 i 3) (fOI .f32 k)) (Nat.succ (ixO 0 i 3)) (fOI .f32 (addI .i64 k 1))) (Nat.succ (Nat.succ (ixO 0 i 3))) (fOI .f32 (addI .i64 (addI .i64 k 1) 1))))
    (he : ∀ m k i b, ltI i (Int.ofNat n) = false → L (m + 1) k i b = some (k, i, false, b)) :
    L big k0 0 ys = some (k0 + (n : Int) * 3, Int.ofNat n, false, marks k0 (n * 3)) := by
  have hm : (marks k0 (n * 3)).length = n * 3 := marks_length _ _
  have := runs (L := fun m i => L m (k0 + i * 3) i ((marks k0 (n * 3)).take (i.toNat * 3) ++ ys.drop (i.toNat * 3))) (len := n) (e := (k0 + (n : Int) * 3, Int.ofNat n, false, marks k0 (n * 3)))
    (fun m i hi => by
      show L (m + 1) (k0 + (i : Int) * 3) i ((marks k0 (n * 3)).take (i * 3) ++ ys.drop (i * 3)) = L m (k0 + ((i + 1 : Nat) : Int) * 3) ((i + 1 : Nat) : Int) ((marks k0 (n * 3)).take ((i + 1) * 3) ++ ys.drop ((i + 1) * 3))
      have e1 : addI .i64 (k0 + (i : Int) * 3) 1 = k0 + ((i * 3 + 1 : Nat) : Int) := by rw [addI_in2 (by omega) (by omega)]; omega
      have e2 : addI .i64 (k0 + ((i * 3 + 1 : Nat) : Int)) 1 = k0 + ((i * 3 + 2 : Nat) : Int) := by rw [addI_in2 (by omega) (by omega)]; omega
      have e3 : addI .i64 (k0 + ((i * 3 + 2 : Nat) : Int)) 1 = k0 + ((i + 1 : Nat) : Int) * 3 := by rw [addI_in2 (by omega) (by omega)]; omega
      have e0 : k0 + (i : Int) * 3 = k0 + ((i * 3 : Nat) : Int) := by omega
      rw [hs m _ (i : Int) _ (okIx_t hi) (ltN_t hi), e1, e2, e3, show addI .i64 (i : Int) 1 = ((i + 1 : Nat) : Int) from addI1 (by omega), show ixO 0 (i : Int) 3 = i * 3 from ix3 i, e0]
      rw [← put3 (xs := marks k0 (n * 3)) (zs := ys) hm (by rw [hy, hm]) hi, marks_get (by omega), marks_get (by omega), marks_get (by omega)])
    (fun m => by
      show L (m + 1) (k0 + (n : Int) * 3) n ((marks k0 (n * 3)).take (n * 3) ++ ys.drop (n * 3)) = _
      rw [he m _ (n : Int) _ (ltN_f (Nat.le_refl _)), List.take_of_length_le (by omega), List.drop_of_length_le (by omega), List.append_nil]
      rfl) (by omega)
  have h0 : k0 + (0 : Int) * 3 = k0 := by omega
  simpa [h0] using this
theorem laws_heldStationS_eq {k0 : Int} {n : Nat} (hk : 0 ≤ k0) (hk2 : k0 ≤ 1099511627776) (hl : n ≤ 1099511627776) : zb1 n (marks k0 (n * 3)) k0 = some (k0 + (n : Int) * 3) := by
  unfold zb1 zb0
  have hp : pF (marks k0 (n * 3)) 0 (muN n 3) = marks k0 (n * 3) := pF_all3 (marks_length _ _)
  have e : ∀ j : Nat, fcmp .neq .f32 (fOI .f32 (k0 + (j : Int))) (fOI .f32 (k0 + (j : Int))) = false := by intro j; rw [neq_self, fOI_nan]
  have hf := runs (L := fun m i => z4r n (marks k0 (n * 3)) m (k0 + i * 3) i) (len := n) (e := Sum.inr (k0 + (n : Int) * 3, Int.ofNat n, false))
    (fun m i hi => by
      show z4r n (marks k0 (n * 3)) (m + 1) (k0 + (i : Int) * 3) (Int.ofNat i) = z4r n (marks k0 (n * 3)) m (k0 + ((i + 1 : Nat) : Int) * 3) (Int.ofNat (i + 1))
      have e1 : addI .i64 (k0 + (i : Int) * 3) 1 = k0 + ((i * 3 + 1 : Nat) : Int) := by rw [addI_in2 (by omega) (by omega)]; omega
      have e2 : addI .i64 (k0 + ((i * 3 + 1 : Nat) : Int)) 1 = k0 + ((i * 3 + 2 : Nat) : Int) := by rw [addI_in2 (by omega) (by omega)]; omega
      have e3 : addI .i64 (k0 + ((i * 3 + 2 : Nat) : Int)) 1 = k0 + ((i + 1 : Nat) : Int) * 3 := by rw [addI_in2 (by omega) (by omega)]; omega
      have e0 : k0 + (i : Int) * 3 = k0 + ((i * 3 : Nat) : Int) := by omega
      rw [zku]; unfold z6r
      rw [ltN_t hi, okIx_t hi, ix3, addI1 (by omega), e1, e2, e3, e0]
      have g0 : gF (marks k0 (n * 3)) (i * 3) = fOI .f32 (k0 + ((i * 3 : Nat) : Int)) := marks_get (by omega)
      have g1 : gF (marks k0 (n * 3)) (Nat.succ (i * 3)) = fOI .f32 (k0 + ((i * 3 + 1 : Nat) : Int)) := marks_get (i := i * 3 + 1) (by omega)
      have g2 : gF (marks k0 (n * 3)) (Nat.succ (Nat.succ (i * 3))) = fOI .f32 (k0 + ((i * 3 + 2 : Nat) : Int)) := marks_get (i := i * 3 + 2) (by omega)
      rw [g0, g1, g2, e, e, e]
      rfl)
    (fun m => by
      show z4r n (marks k0 (n * 3)) (m + 1) (k0 + (n : Int) * 3) (Int.ofNat n) = _
      rw [zku]; unfold z6r; rw [ltN_f (Nat.le_refl _)]; rfl) (by omega)
  have hf2 : z4r n (marks k0 (n * 3)) big k0 0 = some (Sum.inr (k0 + (n : Int) * 3, Int.ofNat n, false)) := by
    have h0 : k0 + (0 : Int) * 3 = k0 := by omega
    simpa [h0] using hf
  obtain ⟨g1, g2, g3, _⟩ := znv rfl hf2
  rw [g1, g2, g3]; rfl
theorem marks_pF3 (k0 : Int) (n : Nat) : pF (marks k0 (n * 3)) 0 (muN n 3) = marks k0 (n * 3) := pF_all3 (marks_length _ _)
theorem laws_heldRotor_eq {k0 : Int} {l m n s : Nat} {count : Int} {hub tip : Nat} (hk : 0 ≤ k0) (hk2 : k0 + (l : Int) + (m : Int) + (n : Int) ≤ 1099511627776) (hl : l < 281474976710656) (hm : m < 281474976710656) (hn : n < 281474976710656) (hs : s ≤ 1099511627776) :
    zdo l (marks k0 l) m (marks (k0 + (l : Int)) m) n (marks (k0 + (l : Int) + (m : Int)) n) s (marks (k0 + (l : Int) + (m : Int) + (n : Int)) (s * 3)) count hub tip k0 = some (k0 + (l : Int) + (m : Int) + (n : Int) + (s : Int) * 3) := by
  obtain ⟨p1, q1⟩ := zr4 (laws_heldProfile_eq (k0 := k0) (l := l) (m := m) (n := n) hk (by omega) hl hm hn)
  obtain ⟨p2, q2⟩ := zpy (laws_heldStationS_eq (k0 := k0 + (l : Int) + (m : Int) + (n : Int)) (n := s) (by omega) hk2 hs)
  have l1 : ltI (k0 + (l : Int) + (m : Int) + (n : Int)) 0 = false := ltI_f (by omega)
  have l2 : ltI (k0 + (l : Int) + (m : Int) + (n : Int) + (s : Int) * 3) 0 = false := ltI_f (by omega)
  unfold zdo zdv
  simp only [marks_pF, marks_pF3, p1, q1, l1, p2, q2, l2, grd_true, br_false]
theorem laws_eqRotor_refl {as ls ds st : List Nat} {n : Nat} {count : Int} {hub tip : Nat} (ha : as.length < 281474976710656) (hl : ls.length < 281474976710656) (hd : ds.length < 281474976710656) (z : st.length = n * 3) (hn : n < 281474976710656) :
    zc6 as.length as ls.length ls ds.length ds n st count hub tip as.length as ls.length ls ds.length ds n st count hub tip = some true := by
  have hst : pF st 0 (muN n 3) = st := pF_all3 z
  obtain ⟨p1, q1⟩ := zn8 (laws_eqProfile_refl ha hl hd)
  obtain ⟨p2, q2⟩ := zmv (laws_eqStationS_refl (xs := st) hn)
  obtain ⟨p3, q3⟩ := z9x (laws_sameFloat_refl (fcvV .f32 .f64 hub))
  obtain ⟨p4, q4⟩ := z9x (laws_sameFloat_refl (fcvV .f32 .f64 tip))
  unfold zc6 ze2
  simp only [pF_all, hst, p1, q1, p2, q2, p3, q3, p4, q4, neI_self, grd_true, bnot_true, br_false]
theorem plain_FnExactScaleRotor {as ls ds st : List Nat} {n : Nat} {count : Int} {hub tip : Nat} {y : Nat} (ka : ∀ x ∈ as, canW .f32 x) (ma : as.length ≤ maxLen) (kl : ∀ x ∈ ls, canW .f32 x) (ml : ls.length ≤ maxLen) (kd : ∀ x ∈ ds, canW .f32 x) (md : ds.length ≤ maxLen)
    (z : st.length = n * 3) (ks : ∀ x ∈ st, canW .f32 x) (mn : n ≤ maxLen) (kc : bdI .i64 count) (kh : canW .f32 hub) (kt : canW .f32 tip) (ky : canW .f32 y) : z9b as.length as ls.length ls ds.length ds n st count hub tip y = some true := by
  obtain ⟨r, p1, q1, _, h⟩ := rotor_law (count := count) (hub := hub) (tip := tip) ma ml md z mn (left := 1048576) (by decide) (by decide)
  have hst : pF st 0 (muN n 3) = st := pF_all3 z
  unfold z9b z98
  simp only [za4, z0p, z0m, za3, z95, z0n, z0o, za0, za6, zcl, z0v, z0u, z0t, z0x, zbm, zbs, z8t, z9n, z8n, z5t, z8p, zbc, z8o, zbn, z8r, z8s, z8q, z9s, z5u, z5v, zbz, zba, z9p, z5w, z9t, zbj, zbk, zbw, zbq, z9u, z9o, zbd, zbo, zbu, zbg, zbh, zbb, zbf, zbv, zby, z9r, zbi, z9l, zbe, zbp, z9k, z9m, zbt, zbx, zbr, zbl, pF_all, hst, p1, q1, grd_true]
  rcases h with h | ⟨e, l, t0, t1, t2, t3, t4, t5, t6, t7, t8, e0, e1⟩
  · rw [ltI_t h]; rfl
  · skip
    obtain ⟨i0, i1, i2, i3, i4, i5, i6, i7, i8, i9, i10, i11, i12⟩ := zr8 (impl_ScaleRotor_eq (as := as) (ls := ls) (ds := ds) (st := st) (n := n) (count := count) (hub := hub) (tip := tip) y (by omega) (by omega) (by omega) z (by omega))
    obtain ⟨s0, s1, s2, s3, s4, s5, s6, s7, s8, s9, s10, s11, s12⟩ := zr7 (spec_ScaleRotor_eq (as := as) (ls := ls) (ds := ds) (st := st) (n := n) (count := count) (hub := hub) (tip := tip) y (by omega) (by omega) (by omega) z (by omega))
    obtain ⟨y1, y2, y3, y4, y5, y6, y7, y8⟩ := scaleR_ok (as := as) (ls := ls) (ds := ds) (count := count) (hub := hub) (tip := tip) y z
    generalize scaleR as ls ds st n count hub tip y = R at *
    obtain ⟨m1, m2, m3, m4, cn', hu', ti', ok, us, vs, ws, ss⟩ := R
    simp only at y1 y2 y3 y4 y5 y6 y7 y8
    subst y1 y2 y3
    have hss : pF ss 0 (muN m4 3) = ss := pF_all3 y4
    obtain ⟨p7, q7⟩ := zoj (laws_eqRotor_refl (as := us) (ls := vs) (ds := ws) (st := ss) (n := m4) (count := cn') (hub := hu') (tip := ti') (by omega) (by omega) (by omega) y4 (by omega))
    obtain ⟨A1, A2, _⟩ := zjf rfl (mark_loop (L := z3b as.length) (k0 := 1) (ys := as) rfl (by omega) (by omega) (by omega) (fun n k i b => by rw [zgp]; rfl))
    obtain ⟨B1, B2, _⟩ := zi3 rfl (mark_loop (L := z2v ls.length) (k0 := 1 + (as.length : Int)) (ys := ls) rfl (by omega) (by omega) (by omega) (fun n k i b => by rw [zfn]; rfl))
    obtain ⟨C1, C2, _⟩ := zh1 rfl (mark_loop (L := z2w ds.length) (k0 := 1 + (as.length : Int) + (ls.length : Int)) (ys := ds) rfl (by omega) (by omega) (by omega) (fun n k i b => by rw [zfk]; rfl))
    obtain ⟨D1, D2, _⟩ := zje rfl (mark_loop3 (L := z3c n) (n := n) (k0 := 1 + (as.length : Int) + (ls.length : Int) + (ds.length : Int)) (ys := st) z (by omega) (by omega) (by omega) (fun m k i b h1 h2 => by rw [zah]; unfold z4p; rw [h1, h2]; rfl) (fun m k i b h => by rw [zah]; unfold z4p; rw [h]; rfl))
    obtain ⟨G1, G2, _, _, G5⟩ := zi6 rfl (mark_loop (L := z2s us.length) (k0 := 1) (ys := us) rfl (by omega) (by omega) (by omega) (fun n k i b => by rw [zfm]; rfl))
    obtain ⟨H1, H2, _, _, H5⟩ := zh2 rfl (mark_loop (L := z2u vs.length) (k0 := 1 + (us.length : Int)) (ys := vs) rfl (by omega) (by omega) (by omega) (fun n k i b => by rw [zfg]; rfl))
    obtain ⟨I1, I2, _, _, I5⟩ := zhb rfl (mark_loop (L := z2t ws.length) (k0 := 1 + (us.length : Int) + (vs.length : Int)) (ys := ws) rfl (by omega) (by omega) (by omega) (fun n k i b => by rw [zfe]; rfl))
    obtain ⟨J1, J2, _, _, J5⟩ := zha rfl (mark_loop3 (L := z2r m4) (n := m4) (k0 := 1 + (us.length : Int) + (vs.length : Int) + (ws.length : Int)) (ys := ss) y4 (by omega) (by omega) (by omega) (fun m k i b h1 h2 => by rw [za8]; unfold z4j; rw [h1, h2]; rfl) (fun m k i b h => by rw [za8]; unfold z4j; rw [h]; rfl))
    obtain ⟨K1, K2⟩ := zrs (laws_heldRotor_eq (k0 := 1) (l := us.length) (m := vs.length) (n := ws.length) (s := m4) (count := cn') (hub := hu') (tip := ti') (by omega) (by omega) (by omega) (by omega) (by omega) (by omega))
    have z1 : ltI (1 + (as.length : Int) + (ls.length : Int) + (ds.length : Int) + (n : Int) * 3) 0 = false := ltI_f (by omega)
    have z2 : ltI (1 + (us.length : Int) + (vs.length : Int) + (ws.length : Int) + (m4 : Int) * 3) 0 = false := ltI_f (by omega)
    simp only [za4, z0p, z0m, za3, z95, z0n, z0o, za0, za6, zcl, z0v, z0u, z0t, z0x, zbm, zbs, z8t, z9n, z8n, z5t, z8p, zbc, z8o, zbn, z8r, z8s, z8q, z9s, z5u, z5v, zbz, zba, z9p, z5w, z9t, zbj, zbk, zbw, zbq, z9u, z9o, zbd, zbo, zbu, zbg, zbh, zbb, zbf, zbv, zby, z9r, zbi, z9l, zbe, zbp, z9k, z9m, zbt, zbx, zbr, zbl, e, t0, t1, t2, t3, t4, t5, t6, t7, t8, e0, e1, pF_all, hst, hss, i0, i1, i2, i3, i4, i5, i6, i7, i8, i9, i10, i11, i12, s0, s1, s2, s3, s4, s5, s6, s7, s8, s9, s10, s11, s12, p7, q7, A1, A2, B1, B2, C1, C2, D1, D2, G1, G2, G5, H1, H2, H5, I1, I2, I5, J1, J2, J5, marks_pF, marks_pF3, K1, K2, z1, z2, grd_true, br_false, bnot_true, beqB_self, neI_self]
end Go.Rf
