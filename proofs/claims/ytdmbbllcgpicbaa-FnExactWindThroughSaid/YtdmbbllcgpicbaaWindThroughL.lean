/-
  Plain laws.
-/
import Derived.Test.YtdmbbllcgpicbaaWindThroughP
set_option linter.unusedVariables false
set_option linter.unusedSimpArgs false
set_option maxRecDepth 100000
set_option maxHeartbeats 4000000
namespace Go.Rf
open Go
def finB (x : Nat) : Bool := fcmp .eql .f32 (fop .sub .f32 x x) 0
def leastB (x : Nat) : Bool := finB x && fcmp .geq .f32 x 0
def posB (x : Nat) : Bool := finB x && fcmp .gtr .f32 x 0
theorem floatBits_nan {op : BinOp} {k : FloatKind} {x y : Nat} (h : nanB k x = true ∨ nanB k y = true) : floatBits op k x y = none := by
  unfold floatBits
  rcases h with h | h
  · obtain ⟨s, f, e⟩ := nan_form h
    cases op <;> simp only [Ieee.Format.add, Ieee.Format.sub, Ieee.Format.mul, Ieee.Format.div, e, sum_nan_left, product_nan_left, quotient_nan_left, Option.map_none]
  · obtain ⟨s, f, e⟩ := nan_form h
    cases op <;> simp only [Ieee.Format.add, Ieee.Format.sub, Ieee.Format.mul, Ieee.Format.div, e, sum_nan_right, product_nan_right, quotient_nan_right, Option.map_none, Ieee.Datum.opposite]
theorem fop_nan {op : BinOp} {k : FloatKind} {x y : Nat} (h : nanB k x = true ∨ nanB k y = true) : fop op k x y = qn k := by
  unfold fop
  rw [floatBits_nan h]; rfl
theorem fin_num {x : Nat} (h : finB x = true) : nanB .f32 x = false := by
  cases hn : nanB .f32 x with
  | false => rfl
  | true =>
    unfold finB at h
    rw [fop_nan (.inl hn), (fcmp_nan .f32 (.inl (nanB_qn .f32))).1] at h
    cases h
theorem nan_zero : nanB .f32 0 = false := by decide +kernel
theorem leq_not_gtr {x y : Nat} (hx : nanB .f32 x = false) (hy : nanB .f32 y = false) : fcmp .leq .f32 x y = !fcmp .gtr .f32 x y := by
  obtain ⟨_, _, _, h4, h5, _⟩ := fcmp_num .f32 hx hy
  rw [h4, h5]
  by_cases h : srung FloatKind.f32.format x ≤ srung FloatKind.f32.format y
  · rw [decide_eq_true h, decide_eq_false (by omega)]; rfl
  · rw [decide_eq_false h, decide_eq_true (by omega)]; rfl
theorem impl_IsFinite_eq (x : Nat) : F_impl_IsFinite x = some (finB x) := rfl
theorem spec_l01Finite_eq (x : Nat) : F_spec_l01Finite x = some (finB x) := rfl
theorem impl_isLeast_eq (x : Nat) : F_impl_isLeast x = some (leastB x) := by
  obtain ⟨h1, h2⟩ := impl_IsFinite_of (impl_IsFinite_eq x)
  unfold F_impl_isLeast T_impl_isLeast leastB
  rw [h1, h2]
  cases finB x <;> rfl
theorem spec_l02Least_eq (x : Nat) : F_spec_l02Least x = some (leastB x) := by
  obtain ⟨h1, h2⟩ := spec_l01Finite_of (spec_l01Finite_eq x)
  unfold F_spec_l02Least T_spec_l02Least leastB
  rw [h1, h2]
  cases finB x <;> rfl
theorem spec_l02Above_eq (x : Nat) : F_spec_l02Above x = some (posB x) := by
  obtain ⟨h1, h2⟩ := spec_l01Finite_of (spec_l01Finite_eq x)
  unfold F_spec_l02Above T_spec_l02Above posB
  rw [h1, h2]
  cases finB x <;> rfl
theorem impl_arePositive_1_eq (x : Nat) : F_impl_arePositive_1 x = some (!posB x) := by
  obtain ⟨h1, h2⟩ := impl_IsFinite_of (impl_IsFinite_eq x)
  unfold F_impl_arePositive_1 T_impl_arePositive_1 posB
  rw [h1, h2]
  cases hf : finB x with
  | false => rfl
  | true => simp only [br_if, grd_true, bnot, Bool.not_true, leq_not_gtr (fin_num hf) nan_zero]; simp
theorem impl_areLeast_1_eq (x : Nat) : F_impl_areLeast_1 x = some (!leastB x) := by
  obtain ⟨h1, h2⟩ := impl_isLeast_of (impl_isLeast_eq x)
  unfold F_impl_areLeast_1 T_impl_areLeast_1
  rw [h1, h2]; rfl
def checkV (x : Nat) : Nat := if finB x then x else 0
theorem impl_checked_eq (x : Nat) : F_impl_checked x = some (checkV x, finB x) := by
  obtain ⟨h1, h2⟩ := impl_IsFinite_of (impl_IsFinite_eq x)
  unfold F_impl_checked T_impl_checked checkV
  rw [h1, h2]
  cases finB x <;> rfl
theorem laws_sameFloat_refl (x : Nat) : F_laws_sameFloat x x = some true := by
  unfold F_laws_sameFloat T_laws_sameFloat
  simp only [neq_self]
  cases hn : nanB .f64 x with
  | true => rfl
  | false =>
    have he : fcmp .eql .f64 x x = true := by rw [(fcmp_num .f64 hn hn).1]; simp
    simp only [br_if, Bool.false_eq_true, if_false, he, beqB, BEq.rfl]
    split <;> rfl
theorem slices_IndexFunc_areLeast {xs : List Nat} (hl : xs.length < 281474976710656) : ∃ r : Int, F_slices_IndexFunc_sf32_f32_areLeast_1 xs.length xs = some r ∧ leI 0 r = !xs.all leastB := by
  unfold F_slices_IndexFunc_sf32_f32_areLeast_1 T_slices_IndexFunc_sf32_f32_areLeast_1
  rcases scan_all (L := L_slices_IndexFunc_sf32_f32_areLeast_1_l2 xs.length (Int.ofNat xs.length) xs) xs leastB (g := fun i => Int.ofNat i) (e := (Int.ofNat xs.length, false))
    (fun n i hi => by
      rw [L_slices_IndexFunc_sf32_f32_areLeast_1_l2_succ]; unfold T_slices_IndexFunc_sf32_f32_areLeast_1_l2; rw [ltN_t hi, okIx_t hi, ix1, addI1 (by omega)]
      simp only [gF]
      generalize xs.getD i 0 = x
      obtain ⟨h1, h2⟩ := impl_areLeast_1_of (impl_areLeast_1_eq x)
      simp only [br_if, grd_true, h1, h2]
      rcases Bool.eq_false_or_eq_true (leastB x) with h | h <;> simp [h])
    (fun n => by rw [L_slices_IndexFunc_sf32_f32_areLeast_1_l2_succ]; unfold T_slices_IndexFunc_sf32_f32_areLeast_1_l2; rw [ltN_f (Nat.le_refl _)]; rfl) hl with ⟨h1, h2⟩ | ⟨j, h2, h3, h4⟩
  · obtain ⟨g1, g2, _⟩ := slices_IndexFunc_sf32_f32_areLeast_1_l2_of1 rfl h2
    exact ⟨Int.negSucc 0, by rw [g1, g2]; rfl, by rw [h1]; rfl⟩
  · obtain ⟨g1, g2, g3⟩ := slices_IndexFunc_sf32_f32_areLeast_1_l2_of0 rfl h4
    exact ⟨Int.ofNat j, by rw [g1, g2, g3]; rfl, by rw [h3]; exact decide_eq_true (by simp)⟩
theorem slices_ContainsFunc_areLeast {xs : List Nat} (hl : xs.length < 281474976710656) : F_slices_ContainsFunc_sf32_f32_areLeast_1 xs.length xs = some (!xs.all leastB) := by
  obtain ⟨r, h1, h2⟩ := slices_IndexFunc_areLeast hl
  obtain ⟨g1, g2⟩ := slices_IndexFunc_sf32_f32_areLeast_1_of h1
  unfold F_slices_ContainsFunc_sf32_f32_areLeast_1 T_slices_ContainsFunc_sf32_f32_areLeast_1
  rw [pF_all, g1, g2, h2]; rfl
theorem impl_areLeast_eq {xs : List Nat} (hl : xs.length < 281474976710656) : F_impl_areLeast xs.length xs = some (xs.all leastB) := by
  obtain ⟨g1, g2⟩ := slices_ContainsFunc_sf32_f32_areLeast_1_of (slices_ContainsFunc_areLeast hl)
  unfold F_impl_areLeast T_impl_areLeast
  rw [pF_all, g1, g2]
  simp [grd_true, bnot]
theorem slices_IndexFunc_arePositive {xs : List Nat} (hl : xs.length < 281474976710656) : ∃ r : Int, F_slices_IndexFunc_sf32_f32_arePositive_1 xs.length xs = some r ∧ leI 0 r = !xs.all posB := by
  unfold F_slices_IndexFunc_sf32_f32_arePositive_1 T_slices_IndexFunc_sf32_f32_arePositive_1
  rcases scan_all (L := L_slices_IndexFunc_sf32_f32_arePositive_1_l2 xs.length (Int.ofNat xs.length) xs) xs posB (g := fun i => Int.ofNat i) (e := (Int.ofNat xs.length, false))
    (fun n i hi => by
      rw [L_slices_IndexFunc_sf32_f32_arePositive_1_l2_succ]; unfold T_slices_IndexFunc_sf32_f32_arePositive_1_l2; rw [ltN_t hi, okIx_t hi, ix1, addI1 (by omega)]
      simp only [gF]
      generalize xs.getD i 0 = x
      obtain ⟨h1, h2⟩ := impl_arePositive_1_of (impl_arePositive_1_eq x)
      simp only [br_if, grd_true, h1, h2]
      rcases Bool.eq_false_or_eq_true (posB x) with h | h <;> simp [h])
    (fun n => by rw [L_slices_IndexFunc_sf32_f32_arePositive_1_l2_succ]; unfold T_slices_IndexFunc_sf32_f32_arePositive_1_l2; rw [ltN_f (Nat.le_refl _)]; rfl) hl with ⟨h1, h2⟩ | ⟨j, h2, h3, h4⟩
  · obtain ⟨g1, g2, _⟩ := slices_IndexFunc_sf32_f32_arePositive_1_l2_of1 rfl h2
    exact ⟨Int.negSucc 0, by rw [g1, g2]; rfl, by rw [h1]; rfl⟩
  · obtain ⟨g1, g2, g3⟩ := slices_IndexFunc_sf32_f32_arePositive_1_l2_of0 rfl h4
    exact ⟨Int.ofNat j, by rw [g1, g2, g3]; rfl, by rw [h3]; exact decide_eq_true (by simp)⟩
theorem slices_ContainsFunc_arePositive {xs : List Nat} (hl : xs.length < 281474976710656) : F_slices_ContainsFunc_sf32_f32_arePositive_1 xs.length xs = some (!xs.all posB) := by
  obtain ⟨r, h1, h2⟩ := slices_IndexFunc_arePositive hl
  obtain ⟨g1, g2⟩ := slices_IndexFunc_sf32_f32_arePositive_1_of h1
  unfold F_slices_ContainsFunc_sf32_f32_arePositive_1 T_slices_ContainsFunc_sf32_f32_arePositive_1
  rw [pF_all, g1, g2, h2]; rfl
theorem impl_arePositive_eq {xs : List Nat} (hl : xs.length < 281474976710656) : F_impl_arePositive xs.length xs = some (xs.all posB) := by
  obtain ⟨g1, g2⟩ := slices_ContainsFunc_sf32_f32_arePositive_1_of (slices_ContainsFunc_arePositive hl)
  unfold F_impl_arePositive T_impl_arePositive
  rw [pF_all, g1, g2]
  simp [grd_true, bnot]
theorem impl_arePositive_two (x y : Nat) : F_impl_arePositive 2 (pF [x, y] 0 (muN 2 1)) = some (posB x && posB y) := by
  have := impl_arePositive_eq (xs := [x, y]) (by simp)
  simpa [pF, muN] using this
def fromToB (x low high : Nat) : Bool := fcmp .geq .f32 x low && fcmp .leq .f32 x high
theorem impl_isFromTo_eq (x low high : Nat) : F_impl_isFromTo x low high = some (fromToB x low high) := by
  unfold F_impl_isFromTo T_impl_isFromTo fromToB
  rcases Bool.eq_false_or_eq_true (fcmp .geq .f32 x low) with h | h <;> simp [h, br_if]
theorem laws_szFloat32S_eq (n : Nat) (xs : List Nat) (left : Int) : ∃ r, F_laws_szFloat32S n xs left = some r ∧ (0 ≤ left → left ≤ 1048576 → n ≤ 9223372036854775807 → (0 ≤ r → r = left - n ∧ (n : Int) ≤ left) ∧ r ≤ 1048576) := by
  unfold F_laws_szFloat32S T_laws_szFloat32S
  by_cases h : subI .i64 left (Int.ofNat n) < 0
  · rw [ltI_t h]
    exact ⟨_, rfl, fun _ _ _ => ⟨fun q => by simp at q, by decide⟩⟩
  · rw [ltI_f h]
    refine ⟨_, rfl, fun h1 h2 h3 => ?_⟩
    have e : subI .i64 left (Int.ofNat n) = left - n := wrap64 (by simp; omega) (by simp; omega)
    rw [e] at h ⊢
    exact ⟨fun _ => ⟨rfl, by omega⟩, by omega⟩
theorem laws_toFloat32S_eq {xs : List Nat} (hl : xs.length ≤ 1099511627776) : F_laws_toFloat32S xs.length xs = some (xs.length, xs) := by
  have hf := folds (L := L_laws_toFloat32S_l3 xs.length xs.length xs) (len := xs.length) (fun i s => s.set i (xs.getD i 0)) (e := fun s => (Int.ofNat xs.length, false, s))
    (fun n i s hi => by rw [L_laws_toFloat32S_l3_succ]; unfold T_laws_toFloat32S_l3; rw [ltN_t hi, okIx_t hi, ix1, addI1 (by omega)]; rfl)
    (fun n s => by rw [L_laws_toFloat32S_l3_succ]; unfold T_laws_toFloat32S_l3; rw [ltN_f (Nat.le_refl _)]; rfl) xs.length 0 big (List.replicate xs.length 0) (by omega) (big_gt (by omega))
  rw [copy_fold xs _ _ _ (by omega) (by simp)] at hf
  simp only [List.take_zero, List.drop_zero, List.nil_append] at hf
  obtain ⟨g1, _, _, g2⟩ := laws_toFloat32S_l3_of0 rfl hf
  have e : rF (muN (toN (Int.ofNat xs.length)) 1) = List.replicate xs.length 0 := by simp [rF, muN, toN]
  have ho : okMk (Int.ofNat xs.length) (Int.ofNat xs.length) 4 = true := decide_eq_true ⟨rfl, by simp, by simp; omega, by decide⟩
  unfold F_laws_toFloat32S T_laws_toFloat32S
  rw [e, ho, toN_nat]
  show grd (laws_toFloat32S_l3_p xs.length xs.length xs (Int.ofNat 0) (List.replicate xs.length 0)) (some (_, laws_toFloat32S_l3_a0_2 xs.length xs.length xs (Int.ofNat 0) (List.replicate xs.length 0))) = _
  rw [g1, g2]; rfl
theorem laws_eqFloat32S_refl {xs : List Nat} (hl : xs.length < 281474976710656) : F_laws_eqFloat32S xs.length xs xs.length xs = some true := by
  have hn : neI (Int.ofNat xs.length) (Int.ofNat xs.length) = false := by simp [neI]
  unfold F_laws_eqFloat32S T_laws_eqFloat32S
  rw [hn]
  rcases scan_all (L := L_laws_eqFloat32S_l4 xs.length xs.length xs xs) xs (fun _ => true) (g := fun i => ()) (e := (Int.ofNat xs.length, false))
    (fun n i hi => by
      obtain ⟨h1, h2⟩ := laws_sameFloat_of (laws_sameFloat_refl (fcvV FloatKind.f32 FloatKind.f64 (gF xs i)))
      rw [L_laws_eqFloat32S_l4_succ]; unfold T_laws_eqFloat32S_l4; rw [ltN_t hi, okIx_t hi, ix1, addI1 (by omega), h1, h2]
      rfl)
    (fun n => by rw [L_laws_eqFloat32S_l4_succ]; unfold T_laws_eqFloat32S_l4; rw [ltN_f (Nat.le_refl _)]; rfl) hl with ⟨h1, h2⟩ | ⟨j, h2, h3, h4⟩
  · obtain ⟨g1, g2, _⟩ := laws_eqFloat32S_l4_of1 rfl h2
    rw [g1, g2]; rfl
  · simp at h3
theorem beqB_self (b : Bool) : beqB b b = true := by cases b <;> rfl
theorem neI_self (i : Int) : neI i i = false := by simp [neI]
theorem bnot_true : bnot true = false := rfl
theorem ltN (a b : Nat) : ltI (Int.ofNat a) (Int.ofNat b) = decide (a < b) := by by_cases h : a < b <;> simp [ltI, h] <;> omega
theorem get_mem {xs : List Nat} {i : Nat} (h : i < xs.length) : xs.getD i 0 ∈ xs := by
  rw [List.getD_eq_getElem?_getD, List.getElem?_eq_getElem h]; exact List.getElem_mem _
def inB (n low high : Int) : Bool := decide (low ≤ n) && decide (n ≤ high)
theorem spec_l00In_eq (n low high : Int) : F_spec_l00In n low high = some (inB n low high) := by
  unfold F_spec_l00In T_spec_l00In inB leI
  cases decide (low ≤ n) <;> rfl
theorem impl_within_eq (n low high : Int) : F_impl_within n low high = some (inB n low high) := by
  unfold F_impl_within T_impl_within inB leI
  cases decide (low ≤ n) <;> rfl
theorem take_succ_getD {ys : List Nat} {i : Nat} (h : i < ys.length) : ys.take i ++ [ys.getD i 0] = ys.take (i + 1) := by
  rw [List.take_succ_eq_append_getElem h]; simp [List.getD_eq_getElem?_getD, h]
theorem runs {ρ : Type} {L : Nat → Int → Option ρ} {len : Nat} {e : ρ} (hs : ∀ n i, i < len → L (n + 1) (Int.ofNat i) = L n (Int.ofNat (i + 1))) (he : ∀ n, L (n + 1) (Int.ofNat len) = some e) (hl : len < 281474976710656) : L big 0 = some e := by
  have := folds (L := fun n i (_ : Unit) => L n i) (len := len) (fun _ _ => ()) (e := fun _ => e) (fun n i _ hi => hs n i hi) (fun n _ => he n) len 0 big () (by omega) (big_gt hl)
  exact this
theorem impl_areFinite_1_eq (x : Nat) : F_impl_areFinite_1 x = some (!finB x) := by
  obtain ⟨h1, h2⟩ := impl_IsFinite_of (impl_IsFinite_eq x)
  unfold F_impl_areFinite_1 T_impl_areFinite_1
  rw [h1, h2]; rfl
theorem slices_IndexFunc_areFinite {xs : List Nat} (hl : xs.length < 281474976710656) : ∃ r : Int, F_slices_IndexFunc_sf32_f32_areFinite_1 xs.length xs = some r ∧ leI 0 r = !xs.all finB := by
  unfold F_slices_IndexFunc_sf32_f32_areFinite_1 T_slices_IndexFunc_sf32_f32_areFinite_1
  rcases scan_all (L := L_slices_IndexFunc_sf32_f32_areFinite_1_l2 xs.length (Int.ofNat xs.length) xs) xs finB (g := fun i => Int.ofNat i) (e := (Int.ofNat xs.length, false))
    (fun n i hi => by
      rw [L_slices_IndexFunc_sf32_f32_areFinite_1_l2_succ]; unfold T_slices_IndexFunc_sf32_f32_areFinite_1_l2; rw [ltN_t hi, okIx_t hi, ix1, addI1 (by omega)]
      simp only [gF]
      generalize xs.getD i 0 = x
      obtain ⟨h1, h2⟩ := impl_areFinite_1_of (impl_areFinite_1_eq x)
      simp only [br_if, grd_true, h1, h2]
      rcases Bool.eq_false_or_eq_true (finB x) with h | h <;> simp [h])
    (fun n => by rw [L_slices_IndexFunc_sf32_f32_areFinite_1_l2_succ]; unfold T_slices_IndexFunc_sf32_f32_areFinite_1_l2; rw [ltN_f (Nat.le_refl _)]; rfl) hl with ⟨h1, h2⟩ | ⟨j, h2, h3, h4⟩
  · obtain ⟨g1, g2, _⟩ := slices_IndexFunc_sf32_f32_areFinite_1_l2_of1 rfl h2
    exact ⟨Int.negSucc 0, by rw [g1, g2]; rfl, by rw [h1]; rfl⟩
  · obtain ⟨g1, g2, g3⟩ := slices_IndexFunc_sf32_f32_areFinite_1_l2_of0 rfl h4
    exact ⟨Int.ofNat j, by rw [g1, g2, g3]; rfl, by rw [h3]; exact decide_eq_true (by simp)⟩
theorem slices_ContainsFunc_areFinite {xs : List Nat} (hl : xs.length < 281474976710656) : F_slices_ContainsFunc_sf32_f32_areFinite_1 xs.length xs = some (!xs.all finB) := by
  obtain ⟨r, h1, h2⟩ := slices_IndexFunc_areFinite hl
  obtain ⟨g1, g2⟩ := slices_IndexFunc_sf32_f32_areFinite_1_of h1
  unfold F_slices_ContainsFunc_sf32_f32_areFinite_1 T_slices_ContainsFunc_sf32_f32_areFinite_1
  rw [pF_all, g1, g2, h2]; rfl
theorem impl_areFinite_eq {xs : List Nat} (hl : xs.length < 281474976710656) : F_impl_areFinite xs.length xs = some (xs.all finB) := by
  obtain ⟨g1, g2⟩ := slices_ContainsFunc_sf32_f32_areFinite_1_of (slices_ContainsFunc_areFinite hl)
  unfold F_impl_areFinite T_impl_areFinite
  rw [pF_all, g1, g2]
  simp [grd_true, bnot]
def walkS {σ α β : Type} (p : Nat → σ → Bool) (f : Nat → σ → σ) (g : Nat → σ → α) (e : σ → β) : Nat → Nat → σ → α ⊕ β
  | 0, _, s => .inr (e s)
  | k + 1, i, s => if p i s = true then walkS p f g e k (i + 1) (f i s) else .inl (g i s)
theorem walks {σ α β : Type} {L : Nat → Int → σ → Option (α ⊕ β)} {len : Nat} (p : Nat → σ → Bool) (f : Nat → σ → σ) {g : Nat → σ → α} {e : σ → β}
    (hs : ∀ n i s, i < len → L (n + 1) (Int.ofNat i) s = if p i s = true then L n (Int.ofNat (i + 1)) (f i s) else some (.inl (g i s))) (he : ∀ n s, L (n + 1) (Int.ofNat len) s = some (.inr (e s))) :
    ∀ k i n s, i + k = len → k < n → L n (Int.ofNat i) s = some (walkS p f g e k i s)
  | 0, i, n, s, hk, hn => by
    obtain ⟨n, rfl⟩ : ∃ m, n = m + 1 := ⟨n - 1, by omega⟩
    obtain rfl : i = len := by omega
    exact he n s
  | k + 1, i, n, s, hk, hn => by
    obtain ⟨n, rfl⟩ : ∃ m, n = m + 1 := ⟨n - 1, by omega⟩
    rw [hs n i s (by omega)]
    unfold walkS
    cases p i s
    · simp
    · simp only [if_true]
      exact walks p f hs he k (i + 1) n (f i s) (by omega) (by omega)
theorem walkS_map {σ α β γ : Type} {p : Nat → σ → Bool} {f : Nat → σ → σ} {g : Nat → σ → α} {e : σ → β} : ∀ (k i : Nat) (s : σ), walkS p f g e k i s = (walkS p f g id k i s).map id e
  | 0, i, s => rfl
  | k + 1, i, s => by
    unfold walkS
    by_cases h : p i s = true
    · rw [if_pos h, if_pos h]; exact walkS_map (γ := γ) k (i + 1) (f i s)
    · rw [if_neg h, if_neg h]; rfl
theorem ix3 (i : Nat) : ixO 0 (Int.ofNat i) 3 = i * 3 := by simp [ixO]
theorem put1 {xs zs : List Nat} (hz : zs.length = xs.length) {j : Nat} (h : j < xs.length) : (xs.take j ++ zs.drop j).set j (xs.getD j 0) = xs.take (j + 1) ++ zs.drop (j + 1) := by
  have h1 : (xs.take j).length = j := by simp; omega
  have h2 : zs.drop j = zs[j] :: zs.drop (j + 1) := List.drop_eq_getElem_cons (by omega)
  rw [← take_succ_getD h, h2, List.set_append_right j _ (by omega), h1, Nat.sub_self, List.set_cons_zero, List.append_assoc]
  rfl
theorem put3 {xs zs : List Nat} {n i : Nat} (hx : xs.length = n * 3) (hz : zs.length = xs.length) (h : i < n) :
    ((((xs.take (i * 3) ++ zs.drop (i * 3)).set (i * 3) (xs.getD (i * 3) 0)).set (i * 3).succ (xs.getD (i * 3).succ 0)).set (i * 3).succ.succ (xs.getD (i * 3).succ.succ 0)) = xs.take ((i + 1) * 3) ++ zs.drop ((i + 1) * 3) := by
  rw [put1 hz (by omega), put1 hz (j := (i * 3).succ) (by omega), put1 hz (j := (i * 3).succ.succ) (by omega)]
  simp only [Nat.succ_eq_add_one, Nat.add_mul, Nat.one_mul]
theorem okMk_t {n b : Nat} (h : n ≤ 1099511627776) (hb : b ≤ 64) : okMk (Int.ofNat n) (Int.ofNat n) b = true := decide_eq_true ⟨rfl, by simp, by simp; omega, hb⟩
theorem laws_toStation_p_eq (a b c : Nat) : laws_toStation_p a b c = true := rfl
theorem laws_toStationS_eq {xs : List Nat} {n : Nat} (hx : xs.length = n * 3) (hl : n ≤ 1099511627776) : F_laws_toStationS n xs = some (n, xs) := by
  have hz : (rF (muN (toN (Int.ofNat n)) 3)).length = xs.length := by simp [rF, muN, hx]
  have hf := runs (L := fun m i => L_laws_toStationS_l3 n n xs m i (xs.take (i.toNat * 3) ++ (rF (muN (toN (Int.ofNat n)) 3)).drop (i.toNat * 3))) (len := n) (e := (Int.ofNat n, false, xs))
    (fun m i hi => by
      show L_laws_toStationS_l3 n n xs _ _ (xs.take (i * 3) ++ (rF (muN (toN (Int.ofNat n)) 3)).drop (i * 3)) = L_laws_toStationS_l3 n n xs _ _ (xs.take ((i + 1) * 3) ++ (rF (muN (toN (Int.ofNat n)) 3)).drop ((i + 1) * 3))
      rw [← put3 hx hz hi, L_laws_toStationS_l3_succ]; unfold T_laws_toStationS_l3
      rw [ltN_t hi, okIx_t hi, ix3, addI1 (by omega), laws_toStation_p_eq]; rfl)
    (fun m => by
      show L_laws_toStationS_l3 n n xs _ _ (xs.take (n * 3) ++ (rF (muN (toN (Int.ofNat n)) 3)).drop (n * 3)) = _
      rw [L_laws_toStationS_l3_succ]; unfold T_laws_toStationS_l3; rw [ltN_f (Nat.le_refl _), br_false, List.take_of_length_le (by omega), List.drop_of_length_le (by omega), List.append_nil]) (by omega)
  obtain ⟨g1, _, _, g2⟩ := laws_toStationS_l3_of0 rfl hf
  have e0 : xs.take (Int.toNat 0 * 3) ++ (rF (muN (toN (Int.ofNat n)) 3)).drop (Int.toNat 0 * 3) = rF (muN (toN (Int.ofNat n)) 3) := by simp
  rw [e0] at g1 g2
  unfold F_laws_toStationS T_laws_toStationS
  rw [okMk_t hl (by omega)]
  show grd (laws_toStationS_l3_p n n xs 0 (rF (muN (toN (Int.ofNat n)) 3))) (some (n, laws_toStationS_l3_a0_2 n n xs 0 (rF (muN (toN (Int.ofNat n)) 3)))) = _
  rw [g1, g2]; rfl
theorem laws_eqStation_refl (a b c : Nat) : F_laws_eqStation a b c a b c = some true := by
  obtain ⟨p1, q1⟩ := laws_sameFloat_of (laws_sameFloat_refl (fcvV .f32 .f64 a))
  obtain ⟨p2, q2⟩ := laws_sameFloat_of (laws_sameFloat_refl (fcvV .f32 .f64 b))
  obtain ⟨p3, q3⟩ := laws_sameFloat_of (laws_sameFloat_refl (fcvV .f32 .f64 c))
  unfold F_laws_eqStation T_laws_eqStation
  rw [p1, q1, p2, q2, p3, q3]; rfl
theorem laws_eqStationS_refl {xs : List Nat} {n : Nat} (hl : n < 281474976710656) : F_laws_eqStationS n xs n xs = some true := by
  unfold F_laws_eqStationS T_laws_eqStationS
  rw [neI_self]
  rcases scan (L := L_laws_eqStationS_l4 n n xs xs) (len := n) (fun _ => true) (g := fun i => ()) (e := (Int.ofNat n, false))
    (fun m i hi => by
      rw [L_laws_eqStationS_l4_succ]; unfold T_laws_eqStationS_l4
      obtain ⟨h1, h2⟩ := laws_eqStation_of (laws_eqStation_refl (gF xs (ixO 0 (Int.ofNat i) 3)) (gF xs (Nat.succ (ixO 0 (Int.ofNat i) 3))) (gF xs (Nat.succ (Nat.succ (ixO 0 (Int.ofNat i) 3)))))
      rw [ltN_t hi, okIx_t hi, addI1 (by omega), h1, h2]; rfl)
    (fun m => by rw [L_laws_eqStationS_l4_succ]; unfold T_laws_eqStationS_l4; rw [ltN_f (Nat.le_refl _)]; rfl) n 0 big (by omega) (big_gt hl) with ⟨h1, h2⟩ | ⟨j, _, h2, h3, h4⟩
  · obtain ⟨g1, g2, _⟩ := laws_eqStationS_l4_of1 rfl h2
    show grd (laws_eqStationS_l4_p n n xs xs (Int.ofNat 0)) (br (laws_eqStationS_l4_w0 n n xs xs (Int.ofNat 0)) _ _) = _
    rw [g1, g2]; rfl
  · cases h3
theorem laws_szStationS_eq (n : Nat) (xs : List Nat) (left : Int) : ∃ r, F_laws_szStationS n xs left = some r ∧ (0 ≤ left → left ≤ 1048576 → n ≤ 9223372036854775807 → (0 ≤ r → r = left - n ∧ (n : Int) ≤ left) ∧ r ≤ 1048576) := by
  unfold F_laws_szStationS T_laws_szStationS
  by_cases h : subI .i64 left (Int.ofNat n) < 0
  · rw [ltI_t h]
    exact ⟨_, rfl, fun _ _ _ => ⟨fun q => by simp at q, by decide⟩⟩
  · rw [ltI_f h]
    refine ⟨_, rfl, fun h1 h2 h3 => ?_⟩
    have e : subI .i64 left (Int.ofNat n) = left - n := wrap64 (by simp; omega) (by simp; omega)
    rw [e] at h ⊢
    exact ⟨fun _ => ⟨rfl, by omega⟩, by omega⟩
theorem laws_szProfile_eq {as ls ds : List Nat} {left : Int} (ha : as.length ≤ maxLen) (hl : ls.length ≤ maxLen) (hd : ds.length ≤ maxLen) (h0 : 0 ≤ left) (h1 : left ≤ 1048576) :
    ∃ r, F_laws_szProfile as.length as ls.length ls ds.length ds left = some r ∧ (0 ≤ r → as.length + ls.length + ds.length ≤ 1048576) ∧ r ≤ 1048576 := by
  have hm : maxLen = 9223372036854775807 := by decide
  rw [hm] at ha hl hd
  obtain ⟨r1, h2, k1⟩ := laws_szFloat32S_eq as.length as left
  obtain ⟨p1, q1⟩ := laws_szFloat32S_of h2
  obtain ⟨k1, k1'⟩ := k1 h0 h1 ha
  obtain ⟨r2, h3, k2⟩ := laws_szFloat32S_eq ls.length ls r1
  obtain ⟨p2, q2⟩ := laws_szFloat32S_of h3
  obtain ⟨r3, h4, k3⟩ := laws_szFloat32S_eq ds.length ds r2
  obtain ⟨p3, q3⟩ := laws_szFloat32S_of h4
  unfold F_laws_szProfile T_laws_szProfile
  simp only [pF_all, p1, q1, grd_true, p2, q2, p3, q3]
  by_cases c1 : r1 < 0
  · rw [ltI_t c1]
    exact ⟨_, rfl, fun h => by simp at h, by decide⟩
  · rw [ltI_f c1]
    obtain ⟨e1, e2⟩ := k1 (by omega)
    obtain ⟨k2, k2'⟩ := k2 (by omega) (by omega) hl
    by_cases c2 : r2 < 0
    · rw [ltI_t c2]
      exact ⟨_, rfl, fun h => by simp at h, by decide⟩
    · rw [ltI_f c2]
      obtain ⟨e3, e4⟩ := k2 (by omega)
      obtain ⟨k3, k3'⟩ := k3 (by omega) (by omega) hd
      by_cases c3 : r3 < 0
      · rw [ltI_t c3]
        exact ⟨_, rfl, fun h => by simp at h, by decide⟩
      · rw [ltI_f c3]
        obtain ⟨e5, e6⟩ := k3 (by omega)
        exact ⟨_, rfl, fun h => by omega, by omega⟩
theorem laws_toProfile_eq {as ls ds : List Nat} (ha : as.length ≤ 1099511627776) (hl : ls.length ≤ 1099511627776) (hd : ds.length ≤ 1099511627776) : F_laws_toProfile as.length as ls.length ls ds.length ds = some (as.length, ls.length, ds.length, as, ls, ds) := by
  obtain ⟨p1, q1, r1⟩ := laws_toFloat32S_of (laws_toFloat32S_eq ha)
  obtain ⟨p2, q2, r2⟩ := laws_toFloat32S_of (laws_toFloat32S_eq hl)
  obtain ⟨p3, q3, r3⟩ := laws_toFloat32S_of (laws_toFloat32S_eq hd)
  unfold F_laws_toProfile T_laws_toProfile
  simp only [pF_all, p1, q1, r1, p2, q2, r2, p3, q3, r3, grd_true]
theorem laws_eqProfile_refl {as ls ds : List Nat} (ha : as.length < 281474976710656) (hl : ls.length < 281474976710656) (hd : ds.length < 281474976710656) : F_laws_eqProfile as.length as ls.length ls ds.length ds as.length as ls.length ls ds.length ds = some true := by
  obtain ⟨p1, q1⟩ := laws_eqFloat32S_of (laws_eqFloat32S_refl ha)
  obtain ⟨p2, q2⟩ := laws_eqFloat32S_of (laws_eqFloat32S_refl hl)
  obtain ⟨p3, q3⟩ := laws_eqFloat32S_of (laws_eqFloat32S_refl hd)
  unfold F_laws_eqProfile T_laws_eqProfile
  simp only [pF_all, p1, q1, p2, q2, p3, q3, grd_true]
  rfl
theorem rotor_law {as ls ds st : List Nat} {n : Nat} {count : Int} {hub tip : Nat} (ma : as.length ≤ maxLen) (ml : ls.length ≤ maxLen) (md : ds.length ≤ maxLen) (z : st.length = n * 3) (mn : n ≤ maxLen) {left : Int} (h0 : 0 ≤ left) (h1 : left ≤ 1048576) :
    ∃ r, laws_szRotor_p as.length as ls.length ls ds.length ds n st count hub tip left = true ∧ laws_szRotor_v0 as.length as ls.length ls ds.length ds n st count hub tip left = r ∧ r ≤ 1048576 ∧
    (r < 0 ∨ (ltI r 0 = false ∧ as.length + ls.length + ds.length + n ≤ 2097152 ∧ laws_toRotor_p as.length as ls.length ls ds.length ds n st count hub tip = true ∧ laws_toRotor_v0 as.length as ls.length ls ds.length ds n st count hub tip = as.length ∧
      laws_toRotor_v1 as.length as ls.length ls ds.length ds n st count hub tip = ls.length ∧ laws_toRotor_v2 as.length as ls.length ls ds.length ds n st count hub tip = ds.length ∧ laws_toRotor_v3 as.length as ls.length ls ds.length ds n st count hub tip = n ∧
      laws_toRotor_v4 as.length as ls.length ls ds.length ds n st count hub tip = as ∧ laws_toRotor_v5 as.length as ls.length ls ds.length ds n st count hub tip = ls ∧ laws_toRotor_v6 as.length as ls.length ls ds.length ds n st count hub tip = ds ∧ laws_toRotor_v7 as.length as ls.length ls ds.length ds n st count hub tip = st ∧
      laws_eqRotor_p as.length as ls.length ls ds.length ds n st count hub tip as.length as ls.length ls ds.length ds n st count hub tip = true ∧ laws_eqRotor_v0 as.length as ls.length ls ds.length ds n st count hub tip as.length as ls.length ls ds.length ds n st count hub tip = true)) := by
  have hm : maxLen = 9223372036854775807 := by decide
  obtain ⟨r1, h2, k1, k1'⟩ := laws_szProfile_eq ma ml md h0 h1
  obtain ⟨p1, q1⟩ := laws_szProfile_of h2
  obtain ⟨r2, h3, k2⟩ := laws_szStationS_eq n st r1
  obtain ⟨p2, q2⟩ := laws_szStationS_of h3
  have hst : pF st 0 (muN n 3) = st := pF_all3 z
  have key : F_laws_szRotor as.length as ls.length ls ds.length ds n st count hub tip left = some (if r1 < 0 then -1 else if r2 < 0 then -1 else r2) := by
    unfold F_laws_szRotor T_laws_szRotor
    simp only [pF_all, hst, p1, q1, grd_true, p2, q2]
    by_cases c1 : r1 < 0
    · rw [ltI_t c1, if_pos c1]; rfl
    · rw [ltI_f c1, if_neg c1]
      by_cases c2 : r2 < 0
      · rw [ltI_t c2, if_pos c2]; rfl
      · rw [ltI_f c2, if_neg c2]; rfl
  obtain ⟨p0, q0⟩ := laws_szRotor_of key
  refine ⟨_, p0, q0, ?_, ?_⟩
  · by_cases c1 : r1 < 0
    · rw [if_pos c1]; decide
    · rw [if_neg c1]
      by_cases c2 : r2 < 0
      · rw [if_pos c2]; decide
      · rw [if_neg c2]
        exact (k2 (by omega) (by omega) (by rw [hm] at mn; exact mn)).2
  · by_cases c1 : r1 < 0
    · rw [if_pos c1]; exact .inl (by decide)
    · rw [if_neg c1]
      by_cases c2 : r2 < 0
      · rw [if_pos c2]; exact .inl (by decide)
      · rw [if_neg c2]
        have l1 := k1 (by omega)
        obtain ⟨k2, _⟩ := k2 (by omega) (by omega) (by rw [hm] at mn; exact mn)
        obtain ⟨_, l2⟩ := k2 (by omega)
        obtain ⟨p3, a3, b3, c3, d3, e3, f3⟩ := laws_toProfile_of (laws_toProfile_eq (as := as) (ls := ls) (ds := ds) (by omega) (by omega) (by omega))
        obtain ⟨p4, a4, b4⟩ := laws_toStationS_of (laws_toStationS_eq z (by omega))
        have kt : F_laws_toRotor as.length as ls.length ls ds.length ds n st count hub tip = some (as.length, ls.length, ds.length, n, as, ls, ds, st) := by
          unfold F_laws_toRotor T_laws_toRotor
          simp only [pF_all, hst, p3, a3, b3, c3, d3, e3, f3, p4, a4, b4, grd_true]
        obtain ⟨p5, q5⟩ := laws_eqProfile_of (laws_eqProfile_refl (as := as) (ls := ls) (ds := ds) (by omega) (by omega) (by omega))
        obtain ⟨p6, q6⟩ := laws_eqStationS_of (laws_eqStationS_refl (xs := st) (n := n) (by omega))
        obtain ⟨p7, q7⟩ := laws_sameFloat_of (laws_sameFloat_refl (fcvV .f32 .f64 hub))
        obtain ⟨p8, q8⟩ := laws_sameFloat_of (laws_sameFloat_refl (fcvV .f32 .f64 tip))
        have ke : F_laws_eqRotor as.length as ls.length ls ds.length ds n st count hub tip as.length as ls.length ls ds.length ds n st count hub tip = some true := by
          unfold F_laws_eqRotor T_laws_eqRotor
          simp only [pF_all, hst, p5, q5, p6, q6, p7, q7, p8, q8, grd_true, neI_self, bnot_true, br_false]
        obtain ⟨t0, t1, t2, t3, t4, t5, t6, t7, t8⟩ := laws_toRotor_of kt
        obtain ⟨e0, e1⟩ := laws_eqRotor_of ke
        exact .inr ⟨ltI_f c2, by omega, t0, t1, t2, t3, t4, t5, t6, t7, t8, e0, e1⟩
def knotB (as : List Nat) (j : Nat) : Bool := fromToB (as.getD j 0) 3204448256 1056964608 && (decide (j = 0) || !fcmp .leq .f32 (as.getD j 0) (as.getD (j - 1) 0))
def profB (as ls ds : List Nat) (j : Nat) : Bool := knotB as j && (finB (ls.getD j 0) && leastB (ds.getD j 0))
def validProfB (as ls ds : List Nat) : Bool := decide (2 ≤ as.length) && (decide (as.length ≤ 24) && (decide (ls.length = as.length) && (decide (ds.length = as.length) && (List.range as.length).all (profB as ls ds))))
theorem range_all {n : Nat} {p : Nat → Bool} : (List.range n).all p = true ↔ ∀ j, j < n → p j = true := by simp [List.all_eq_true]
theorem geq_leq {x y : Nat} : fcmp .geq .f32 x y = fcmp .leq .f32 y x := by
  cases hx : nanB .f32 x with
  | true => rw [(fcmp_nan .f32 (.inl hx)).2.2.2.2.2, (fcmp_nan .f32 (.inr hx)).2.2.2.1]
  | false =>
    cases hy : nanB .f32 y with
    | true => rw [(fcmp_nan .f32 (.inr hy)).2.2.2.2.2, (fcmp_nan .f32 (.inl hy)).2.2.2.1]
    | false => rw [(fcmp_num .f32 hx hy).2.2.2.2.2, (fcmp_num .f32 hy hx).2.2.2.1]
theorem ltN0 (i : Nat) : ltI 0 (Int.ofNat i) = !decide (i = 0) := by
  rw [show ltI 0 (Int.ofNat i) = decide (0 < i) from ltN 0 i]
  by_cases h : i = 0
  · rw [decide_eq_true h, decide_eq_false (by omega)]; rfl
  · rw [decide_eq_false h, decide_eq_true (by omega)]; rfl
theorem subN1 {i : Nat} (h : i ≠ 0) (h2 : i < 4611686018427387904) : subI .i64 (Int.ofNat i) 1 = Int.ofNat (i - 1) := by
  have : subI .i64 (Int.ofNat i) 1 = (i : Int) - 1 := wrap64 (by simp; omega) (by simp; omega)
  rw [this]; simp; omega
theorem impl_ValidProfile_loop {as : List Nat} (hl : as.length ≤ 24) :
    impl_ValidProfile_l5_p as.length (Int.ofNat as.length) as as.length 0 = true ∧ impl_ValidProfile_l5_w0 as.length (Int.ofNat as.length) as as.length 0 = !(List.range as.length).all (knotB as) := by
  rcases scan (L := L_impl_ValidProfile_l5 as.length (Int.ofNat as.length) as as.length) (len := as.length) (knotB as) (g := fun _ => ()) (e := (Int.ofNat as.length, false))
    (fun n i hi => by
      rw [L_impl_ValidProfile_l5_succ]; unfold T_impl_ValidProfile_l5
      obtain ⟨p1, q1⟩ := impl_isFromTo_of (impl_isFromTo_eq (as.getD i 0) 3204448256 1056964608)
      rw [ltN_t hi, okIx_t hi, ix1, addI1 (by omega), ltN0]
      simp only [gF, p1, q1, grd_true, br_true]
      unfold knotB
      by_cases h0 : i = 0
      · subst h0
        cases fromToB (as.getD 0 0) 3204448256 1056964608 <;> rfl
      · rw [subN1 h0 (by omega), okIx_t (show i - 1 < as.length by omega), ix1, geq_leq, decide_eq_false h0]
        cases fromToB (as.getD i 0) 3204448256 1056964608
        · rfl
        · cases fcmp .leq .f32 (as.getD i 0) (as.getD (i - 1) 0) <;> rfl)
    (fun n => by rw [L_impl_ValidProfile_l5_succ]; unfold T_impl_ValidProfile_l5; rw [ltN_f (Nat.le_refl _)]; rfl) as.length 0 big (by omega) (big_gt (by omega)) with ⟨h1, h2⟩ | ⟨j, _, h2, h3, h4⟩
  · obtain ⟨g1, g2, _⟩ := impl_ValidProfile_l5_of1 rfl h2
    rw [range_all.2 fun j hj => h1 j (Nat.zero_le _) hj]
    exact ⟨g1, g2⟩
  · obtain ⟨g1, g2⟩ := impl_ValidProfile_l5_of0 rfl h4
    have : (List.range as.length).all (knotB as) = false := by
      cases hh : (List.range as.length).all (knotB as) with
      | false => rfl
      | true => rw [range_all.1 hh j h2] at h3; cases h3
    rw [this]
    exact ⟨g1, g2⟩
theorem all_getD {xs : List Nat} {p : Nat → Bool} : xs.all p = true ↔ ∀ j, j < xs.length → p (xs.getD j 0) = true := by
  rw [List.all_eq_true]
  constructor
  · intro h j hj; exact h _ (get_mem hj)
  · intro h x hx
    obtain ⟨i, hi, rfl⟩ := List.getElem_of_mem hx
    have := h i hi
    simpa [List.getD_eq_getElem?_getD, hi] using this
theorem ltN2 (n : Nat) : ltI (Int.ofNat n) 2 = !decide (2 ≤ n) := by
  rw [show ltI (Int.ofNat n) 2 = decide (n < 2) from ltN n 2]
  by_cases h : 2 ≤ n
  · rw [decide_eq_true h, decide_eq_false (by omega)]; rfl
  · rw [decide_eq_false h, decide_eq_true (by omega)]; rfl
theorem gtN (c n : Nat) : ltI (Int.ofNat c) (Int.ofNat n) = !decide (n ≤ c) := by
  rw [ltN]
  by_cases h : n ≤ c
  · rw [decide_eq_true h, decide_eq_false (by omega)]; rfl
  · rw [decide_eq_false h, decide_eq_true (by omega)]; rfl
theorem neN (m n : Nat) : neI (Int.ofNat m) (Int.ofNat n) = !decide (m = n) := by
  unfold neI
  by_cases h : m = n
  · subst h; simp
  · rw [decide_eq_false h]; simp; omega
theorem impl_ValidProfile_eq {as ls ds : List Nat} (hl : ls.length < 281474976710656) (hd : ds.length < 281474976710656) : F_impl_ValidProfile as.length as ls.length ls ds.length ds = some (validProfB as ls ds) := by
  obtain ⟨p1, q1⟩ := impl_areFinite_of (impl_areFinite_eq hl)
  obtain ⟨p2, q2⟩ := impl_areLeast_of (impl_areLeast_eq hd)
  unfold F_impl_ValidProfile T_impl_ValidProfile validProfB
  rw [ltN2, show ltI 24 (Int.ofNat as.length) = !decide (as.length ≤ 24) from gtN 24 _, neN, neN]
  simp only [pF_all, p1, q1, p2, q2, grd_true]
  by_cases c1 : 2 ≤ as.length
  · by_cases c2 : as.length ≤ 24
    · by_cases c3 : ls.length = as.length
      · by_cases c4 : ds.length = as.length
        · obtain ⟨g1, g2⟩ := impl_ValidProfile_loop c2
          rw [decide_eq_true c1, decide_eq_true c2, decide_eq_true c3, decide_eq_true c4, g1, g2]
          have key : (List.range as.length).all (profB as ls ds) = (ls.all finB && (ds.all leastB && (List.range as.length).all (knotB as))) := by
            rw [Bool.eq_iff_iff, Bool.and_eq_true, Bool.and_eq_true, range_all, range_all, all_getD, all_getD, c3, c4]
            constructor
            · intro h
              refine ⟨fun j hj => ?_, fun j hj => ?_, fun j hj => ?_⟩
              all_goals have := h j hj; unfold profB at this; simp only [Bool.and_eq_true] at this
              · exact this.2.1
              · exact this.2.2
              · exact this.1
            · rintro ⟨h1, h2, h3⟩ j hj
              unfold profB
              rw [h1 j hj, h2 j hj, h3 j hj]; rfl
          rw [key]
          cases ls.all finB <;> cases ds.all leastB <;> cases (List.range as.length).all (knotB as) <;> rfl
        · rw [decide_eq_false c4]
          rw [decide_eq_true c1, decide_eq_true c2, decide_eq_true c3]; rfl
      · rw [decide_eq_false c3]
        rw [decide_eq_true c1, decide_eq_true c2]; rfl
    · rw [decide_eq_false c2]
      rw [decide_eq_true c1]; rfl
  · rw [decide_eq_false c1]; rfl
theorem spec_l02Is_eq {as ls ds : List Nat} : F_spec_l02Is as.length as ls.length ls ds.length ds = some (validProfB as ls ds) := by
  unfold F_spec_l02Is T_spec_l02Is validProfB
  rw [ltN2, show ltI 24 (Int.ofNat as.length) = !decide (as.length ≤ 24) from gtN 24 _, neN, neN]
  by_cases c1 : 2 ≤ as.length
  · by_cases c2 : as.length ≤ 24
    · by_cases c3 : ls.length = as.length
      · by_cases c4 : ds.length = as.length
        · rw [decide_eq_true c1, decide_eq_true c2, decide_eq_true c3, decide_eq_true c4]
          rcases scan (L := L_spec_l02Is_l5 (Int.ofNat as.length) as ls ds as.length ls.length ds.length) (len := as.length) (profB as ls ds) (g := fun _ => ()) (e := (Int.ofNat as.length, false))
            (fun n i hi => by
              rw [L_spec_l02Is_l5_succ]; unfold T_spec_l02Is_l5
              obtain ⟨p1, q1⟩ := spec_l01Finite_of (spec_l01Finite_eq (ls.getD i 0))
              obtain ⟨p2, q2⟩ := spec_l02Least_of (spec_l02Least_eq (ds.getD i 0))
              rw [ltN_t hi, okIx_t hi, ix1, addI1 (by omega), ltN0, okIx_t (show i < ls.length by omega), okIx_t (show i < ds.length by omega)]
              simp only [gF, p1, q1, p2, q2, grd_true, br_true]
              unfold profB knotB fromToB
              by_cases h0 : i = 0
              · subst h0
                cases fcmp .geq .f32 (as.getD 0 0) 3204448256 <;> cases fcmp .leq .f32 (as.getD 0 0) 1056964608 <;> cases finB (ls.getD 0 0) <;> cases leastB (ds.getD 0 0) <;> rfl
              · rw [subN1 h0 (by omega), okIx_t (show i - 1 < as.length by omega), ix1, decide_eq_false h0]
                cases fcmp .geq .f32 (as.getD i 0) 3204448256 <;> cases fcmp .leq .f32 (as.getD i 0) 1056964608 <;> cases fcmp .leq .f32 (as.getD i 0) (as.getD (i - 1) 0) <;> cases finB (ls.getD i 0) <;> cases leastB (ds.getD i 0) <;> rfl)
            (fun n => by rw [L_spec_l02Is_l5_succ]; unfold T_spec_l02Is_l5; rw [ltN_f (Nat.le_refl _)]; rfl) as.length 0 big (by omega) (big_gt (by omega)) with ⟨h1, h2⟩ | ⟨j, _, h2, h3, h4⟩
          · obtain ⟨g1, g2, _⟩ := spec_l02Is_l5_of1 rfl h2
            rw [range_all.2 fun j hj => h1 j (Nat.zero_le _) hj]
            show grd (spec_l02Is_l5_p (Int.ofNat as.length) as ls ds as.length ls.length ds.length (Int.ofNat 0)) (br (spec_l02Is_l5_w0 (Int.ofNat as.length) as ls ds as.length ls.length ds.length (Int.ofNat 0)) _ _) = _
            rw [g1, g2]; rfl
          · obtain ⟨g1, g2⟩ := spec_l02Is_l5_of0 rfl h4
            have : (List.range as.length).all (profB as ls ds) = false := by
              cases hh : (List.range as.length).all (profB as ls ds) with
              | false => rfl
              | true => rw [range_all.1 hh j h2] at h3; cases h3
            rw [this]
            show grd (spec_l02Is_l5_p (Int.ofNat as.length) as ls ds as.length ls.length ds.length (Int.ofNat 0)) (br (spec_l02Is_l5_w0 (Int.ofNat as.length) as ls ds as.length ls.length ds.length (Int.ofNat 0)) _ _) = _
            rw [g1, g2]; rfl
        · rw [decide_eq_false c4]
          rw [decide_eq_true c1, decide_eq_true c2, decide_eq_true c3]; rfl
      · rw [decide_eq_false c3]
        rw [decide_eq_true c1, decide_eq_true c2]; rfl
    · rw [decide_eq_false c2]
      rw [decide_eq_true c1]; rfl
  · rw [decide_eq_false c1]; rfl
def ringP (st : List Nat) (tip : Nat) (i s : Nat) : Bool := fcmp .gtr .f32 (st.getD (i * 3) 0) s && (fcmp .lss .f32 (st.getD (i * 3) 0) tip && (posB (st.getD (i * 3).succ 0) && finB (st.getD (i * 3).succ.succ 0)))
def ringsW (st : List Nat) (n hub tip : Nat) : Unit ⊕ Nat := walkS (ringP st tip) (fun i _ => st.getD (i * 3) 0) (fun _ _ => ()) id n 0 hub
def validRotorB (as ls ds st : List Nat) (n : Nat) (count : Int) (hub tip : Nat) : Bool :=
  validProfB as ls ds && (inB count 1 6 && (decide (2 ≤ n) && (decide (n ≤ 12) && (leastB hub && (finB tip && (ringsW st n hub tip).isRight)))))
theorem impl_ValidRotor_loop {st : List Nat} {n hub tip : Nat} (hl : n ≤ 12) : impl_ValidRotor_l6_p n (Int.ofNat n) st tip hub 0 = true ∧ impl_ValidRotor_l6_w0 n (Int.ofNat n) st tip hub 0 = !(ringsW st n hub tip).isRight := by
  have hf := walks (L := fun m i s => L_impl_ValidRotor_l6 n (Int.ofNat n) st tip m s i) (len := n) (ringP st tip) (fun i _ => st.getD (i * 3) 0) (g := fun _ _ => ()) (e := fun s => (s, Int.ofNat n, false))
    (fun m i s hi => by
      show L_impl_ValidRotor_l6 _ _ _ _ _ _ _ = if _ then L_impl_ValidRotor_l6 _ _ _ _ _ _ _ else _
      rw [L_impl_ValidRotor_l6_succ]; unfold T_impl_ValidRotor_l6
      obtain ⟨p1, q1⟩ := impl_arePositive_of (show F_impl_arePositive 1 (pF [st.getD (i * 3).succ 0] 0 (muN 1 1)) = some (posB (st.getD (i * 3).succ 0)) by
        have := impl_arePositive_eq (xs := [st.getD (i * 3).succ 0]) (by simp)
        simpa [pF, muN] using this)
      obtain ⟨p2, q2⟩ := impl_IsFinite_of (impl_IsFinite_eq (st.getD (i * 3).succ.succ 0))
      rw [ltN_t hi, okIx_t hi, ix3, addI1 (by omega)]
      simp only [gF, p1, q1, p2, q2, grd_true, br_true]
      unfold ringP
      cases fcmp .gtr .f32 (st.getD (i * 3) 0) s <;> cases fcmp .lss .f32 (st.getD (i * 3) 0) tip <;> cases posB (st.getD (i * 3).succ 0) <;> cases finB (st.getD (i * 3).succ.succ 0) <;> rfl)
    (fun m s => by show L_impl_ValidRotor_l6 _ _ _ _ _ _ _ = _; rw [L_impl_ValidRotor_l6_succ]; unfold T_impl_ValidRotor_l6; rw [ltN_f (Nat.le_refl _)]; rfl) n 0 big hub (by omega) (big_gt (by omega))
  rw [walkS_map (γ := Unit)] at hf
  have hw : ringsW st n hub tip = walkS (ringP st tip) (fun i _ => st.getD (i * 3) 0) (fun _ _ => ()) id n 0 hub := rfl
  rw [← hw] at hf
  cases hc : ringsW st n hub tip with
  | inl u => rw [hc] at hf; obtain ⟨g1, g2⟩ := impl_ValidRotor_l6_of0 rfl hf; exact ⟨g1, g2⟩
  | inr s => rw [hc] at hf; obtain ⟨g1, g2, _⟩ := impl_ValidRotor_l6_of1 rfl hf; exact ⟨g1, g2⟩
theorem spec_l03Is_loop {st : List Nat} {n hub tip : Nat} (hl : n ≤ 12) : spec_l03Is_l6_p (Int.ofNat n) st n tip hub 0 = true ∧ spec_l03Is_l6_w0 (Int.ofNat n) st n tip hub 0 = !(ringsW st n hub tip).isRight := by
  have hf := walks (L := fun m i s => L_spec_l03Is_l6 (Int.ofNat n) st n tip m s i) (len := n) (ringP st tip) (fun i _ => st.getD (i * 3) 0) (g := fun _ _ => ()) (e := fun s => (s, Int.ofNat n, false))
    (fun m i s hi => by
      show L_spec_l03Is_l6 _ _ _ _ _ _ _ = if _ then L_spec_l03Is_l6 _ _ _ _ _ _ _ else _
      rw [L_spec_l03Is_l6_succ]; unfold T_spec_l03Is_l6
      obtain ⟨p1, q1⟩ := spec_l02Above_of (spec_l02Above_eq (st.getD (i * 3).succ 0))
      obtain ⟨p2, q2⟩ := spec_l01Finite_of (spec_l01Finite_eq (st.getD (i * 3).succ.succ 0))
      rw [ltN_t hi, okIx_t hi, ix3, addI1 (by omega)]
      simp only [gF, p1, q1, p2, q2, grd_true, br_true]
      unfold ringP
      cases fcmp .gtr .f32 (st.getD (i * 3) 0) s <;> cases fcmp .lss .f32 (st.getD (i * 3) 0) tip <;> cases posB (st.getD (i * 3).succ 0) <;> cases finB (st.getD (i * 3).succ.succ 0) <;> rfl)
    (fun m s => by show L_spec_l03Is_l6 _ _ _ _ _ _ _ = _; rw [L_spec_l03Is_l6_succ]; unfold T_spec_l03Is_l6; rw [ltN_f (Nat.le_refl _)]; rfl) n 0 big hub (by omega) (big_gt (by omega))
  rw [walkS_map (γ := Unit)] at hf
  have hw : ringsW st n hub tip = walkS (ringP st tip) (fun i _ => st.getD (i * 3) 0) (fun _ _ => ()) id n 0 hub := rfl
  rw [← hw] at hf
  cases hc : ringsW st n hub tip with
  | inl u => rw [hc] at hf; obtain ⟨g1, g2⟩ := spec_l03Is_l6_of0 rfl hf; exact ⟨g1, g2⟩
  | inr s => rw [hc] at hf; obtain ⟨g1, g2, _⟩ := spec_l03Is_l6_of1 rfl hf; exact ⟨g1, g2⟩
theorem impl_ValidRotor_eq {as ls ds st : List Nat} {n : Nat} {count : Int} {hub tip : Nat} (hl : ls.length < 281474976710656) (hd : ds.length < 281474976710656) :
    F_impl_ValidRotor as.length as ls.length ls ds.length ds n st count hub tip = some (validRotorB as ls ds st n count hub tip) := by
  obtain ⟨p1, q1⟩ := impl_ValidProfile_of (impl_ValidProfile_eq (as := as) hl hd)
  obtain ⟨p2, q2⟩ := impl_within_of (impl_within_eq count 1 6)
  obtain ⟨p3, q3⟩ := impl_isLeast_of (impl_isLeast_eq hub)
  obtain ⟨p4, q4⟩ := impl_IsFinite_of (impl_IsFinite_eq tip)
  unfold F_impl_ValidRotor T_impl_ValidRotor validRotorB
  rw [ltN2, show ltI 12 (Int.ofNat n) = !decide (n ≤ 12) from gtN 12 _]
  simp only [pF_all, p1, q1, p2, q2, p3, q3, p4, q4, grd_true]
  by_cases c2 : n ≤ 12
  · obtain ⟨g1, g2⟩ := impl_ValidRotor_loop (st := st) (hub := hub) (tip := tip) c2
    rw [g1, g2, decide_eq_true c2]
    cases validProfB as ls ds <;> cases inB count 1 6 <;> cases decide (2 ≤ n) <;> cases leastB hub <;> cases finB tip <;> cases (ringsW st n hub tip).isRight <;> rfl
  · rw [decide_eq_false c2]
    cases validProfB as ls ds <;> cases inB count 1 6 <;> cases decide (2 ≤ n) <;> rfl
theorem spec_l03Is_eq {as ls ds st : List Nat} {n : Nat} {count : Int} {hub tip : Nat} :
    F_spec_l03Is as.length as ls.length ls ds.length ds n st count hub tip = some (validRotorB as ls ds st n count hub tip) := by
  obtain ⟨p1, q1⟩ := spec_l02Is_of (spec_l02Is_eq (as := as) (ls := ls) (ds := ds))
  obtain ⟨p2, q2⟩ := spec_l00In_of (spec_l00In_eq count 1 6)
  obtain ⟨p3, q3⟩ := spec_l02Least_of (spec_l02Least_eq hub)
  obtain ⟨p4, q4⟩ := spec_l01Finite_of (spec_l01Finite_eq tip)
  unfold F_spec_l03Is T_spec_l03Is validRotorB
  rw [ltN2, show ltI 12 (Int.ofNat n) = !decide (n ≤ 12) from gtN 12 _]
  simp only [pF_all, p1, q1, p2, q2, p3, q3, p4, q4, grd_true]
  by_cases c2 : n ≤ 12
  · obtain ⟨g1, g2⟩ := spec_l03Is_loop (st := st) (hub := hub) (tip := tip) c2
    rw [g1, g2, decide_eq_true c2]
    cases validProfB as ls ds <;> cases inB count 1 6 <;> cases decide (2 ≤ n) <;> cases leastB hub <;> cases finB tip <;> cases (ringsW st n hub tip).isRight <;> rfl
  · rw [decide_eq_false c2]
    cases validProfB as ls ds <;> cases inB count 1 6 <;> cases decide (2 ≤ n) <;> rfl
theorem spec_l03Number_eq (x : Nat) : F_spec_l03Number x = some (checkV x, finB x) := by
  obtain ⟨h1, h2⟩ := spec_l01Finite_of (spec_l01Finite_eq x)
  unfold F_spec_l03Number T_spec_l03Number checkV
  rw [h1, h2]
  cases finB x <;> rfl
def thru (d tip wind : Nat) : Nat := fop .mul .f32 (fop .mul .f32 (fop .mul .f32 (fop .mul .f32 (fop .mul .f32 (fop .mul .f32 (fop .mul .f32 1056964608 d) 1078530011) tip) tip) wind) wind) wind
def thruR (v : Bool) (tip wind d : Nat) : Nat × Bool := if v = true then (if (posB wind && posB d) = true then (checkV (thru d tip wind), finB (thru d tip wind)) else (0, false)) else (0, false)
theorem impl_WindThrough_loop (d tip wind : Nat) : impl_WindThrough_l5_p 6 (Int.ofNat 6) [1078530011, tip, tip, wind, wind, wind] (fop .mul .f32 1056964608 d) 0 = true ∧ impl_WindThrough_l5_a0_0 6 (Int.ofNat 6) [1078530011, tip, tip, wind, wind, wind] (fop .mul .f32 1056964608 d) 0 = thru d tip wind := by
  have hf := folds (L := fun n i s => L_impl_WindThrough_l5 6 (Int.ofNat 6) [1078530011, tip, tip, wind, wind, wind] n s i) (len := 6) (fun i s => fop .mul .f32 s ([1078530011, tip, tip, wind, wind, wind].getD i 0)) (e := fun s => (s, Int.ofNat 6, false))
    (fun n i s hi => by show L_impl_WindThrough_l5 _ _ _ _ _ _ = _; rw [L_impl_WindThrough_l5_succ]; unfold T_impl_WindThrough_l5; rw [ltN_t hi, okIx_t hi, ix1, addI1 (by omega)]; rfl)
    (fun n s => by show L_impl_WindThrough_l5 _ _ _ _ _ _ = _; rw [L_impl_WindThrough_l5_succ]; unfold T_impl_WindThrough_l5; rw [ltN_f (Nat.le_refl _)]; rfl) 6 0 big (fop .mul .f32 1056964608 d) (by omega) (big_gt (by omega))
  obtain ⟨g1, g2, _⟩ := impl_WindThrough_l5_of0 rfl hf
  exact ⟨g1, g2⟩
theorem impl_WindThrough_eq {as ls ds st : List Nat} {n : Nat} {count : Int} {hub tip : Nat} (wind d : Nat) (z : st.length = n * 3) (hl : ls.length < 281474976710656) (hd : ds.length < 281474976710656) :
    F_impl_WindThrough as.length as ls.length ls ds.length ds n st count hub tip wind d = some (thruR (validRotorB as ls ds st n count hub tip) tip wind d) := by
  have hst : pF st 0 (muN n 3) = st := pF_all3 z
  obtain ⟨p1, q1⟩ := impl_ValidRotor_of (impl_ValidRotor_eq (as := as) (st := st) (n := n) (count := count) (hub := hub) (tip := tip) hl hd)
  obtain ⟨p2, q2⟩ := impl_arePositive_of (impl_arePositive_two wind d)
  obtain ⟨p4, q4⟩ := impl_WindThrough_loop d tip wind
  obtain ⟨p3, q3, r3⟩ := impl_checked_of (impl_checked_eq (thru d tip wind))
  unfold F_impl_WindThrough T_impl_WindThrough thruR
  simp only [pF_all, hst, p1, q1, p2, q2, p4, q4, p3, q3, r3, grd_true]
  cases validRotorB as ls ds st n count hub tip <;> cases posB wind <;> cases posB d <;> rfl
theorem spec_WindThrough_eq {as ls ds st : List Nat} {n : Nat} {count : Int} {hub tip : Nat} (wind d : Nat) (z : st.length = n * 3) :
    F_spec_WindThrough as.length as ls.length ls ds.length ds n st count hub tip wind d = some (thruR (validRotorB as ls ds st n count hub tip) tip wind d) := by
  have hst : pF st 0 (muN n 3) = st := pF_all3 z
  obtain ⟨p1, q1⟩ := spec_l03Is_of (spec_l03Is_eq (as := as) (ls := ls) (ds := ds) (st := st) (n := n) (count := count) (hub := hub) (tip := tip))
  obtain ⟨p2, q2⟩ := spec_l02Above_of (spec_l02Above_eq wind)
  obtain ⟨p4, q4⟩ := spec_l02Above_of (spec_l02Above_eq d)
  obtain ⟨p3, q3, r3⟩ := spec_l03Number_of (spec_l03Number_eq (thru d tip wind))
  unfold F_spec_WindThrough T_spec_WindThrough thruR
  unfold thru at p3 q3 r3 ⊢
  simp only [pF_all, hst, p1, q1, p2, q2, p4, q4, p3, q3, r3, grd_true]
  cases validRotorB as ls ds st n count hub tip <;> cases posB wind <;> cases posB d <;> rfl
theorem plain_FnExactWindThrough {as ls ds st : List Nat} {n : Nat} {count : Int} {hub tip wind d : Nat} (ka : ∀ x ∈ as, canW .f32 x) (ma : as.length ≤ maxLen) (kl : ∀ x ∈ ls, canW .f32 x) (ml : ls.length ≤ maxLen) (kd : ∀ x ∈ ds, canW .f32 x) (md : ds.length ≤ maxLen)
    (z : st.length = n * 3) (ks : ∀ x ∈ st, canW .f32 x) (mn : n ≤ maxLen) (kc : bdI .i64 count) (kh : canW .f32 hub) (kt : canW .f32 tip) (kw : canW .f32 wind) (kv : canW .f32 d) : F_laws_FnExactWindThrough as.length as ls.length ls ds.length ds n st count hub tip wind d = some true := by
  obtain ⟨r, p1, q1, _, h⟩ := rotor_law (count := count) (hub := hub) (tip := tip) ma ml md z mn (left := 1048576) (by decide) (by decide)
  have hst : pF st 0 (muN n 3) = st := pF_all3 z
  unfold F_laws_FnExactWindThrough T_laws_FnExactWindThrough
  simp only [pF_all, hst, p1, q1, grd_true]
  rcases h with h | ⟨e, l, t0, t1, t2, t3, t4, t5, t6, t7, t8, e0, e1⟩
  · rw [ltI_t h]; rfl
  · obtain ⟨p2, q2, r2⟩ := impl_WindThrough_of (impl_WindThrough_eq (as := as) (ls := ls) (ds := ds) (st := st) (n := n) (count := count) (hub := hub) (tip := tip) wind d z (by omega) (by omega))
    obtain ⟨p3, q3, r3⟩ := spec_WindThrough_of (spec_WindThrough_eq (as := as) (ls := ls) (ds := ds) (st := st) (n := n) (count := count) (hub := hub) (tip := tip) wind d z)
    obtain ⟨p6, q6⟩ := laws_sameFloat_of (laws_sameFloat_refl (fcvV .f32 .f64 (thruR (validRotorB as ls ds st n count hub tip) tip wind d).1))
    simp only [e, t0, t1, t2, t3, t4, t5, t6, t7, t8, e0, e1, pF_all, hst, p2, q2, r2, p3, q3, r3, p6, q6, grd_true, br_false, bnot_true, beqB_self]
end Go.Rf
