/-
  Plain laws.
-/
import Derived.Test.YtdmbbllcgpicbaaSolidityAtP
set_option linter.unusedVariables false
set_option linter.unusedSimpArgs false
set_option maxRecDepth 100000
set_option maxHeartbeats 4000000
namespace Go.Rf
open Go
def finB (x : Nat) : Bool := fcmp .eql .f32 (fop .sub .f32 x x) 0
def leastB (x : Nat) : Bool := finB x && fcmp .geq .f32 x 0
def posB (x : Nat) : Bool := finB x && fcmp .gtr .f32 x 0
theorem floatBits_nan {op : BinOp} {k : FloatKind} {x y : Nat} (h : nanB k x = true ∨ nanB k y = true) : floatBits op k x y = none := by
  unfold floatBits
  rcases h with h | h
  · obtain ⟨s, f, e⟩ := nan_form h
    cases op <;> simp only [Ieee.Format.add, Ieee.Format.sub, Ieee.Format.mul, Ieee.Format.div, e, sum_nan_left, product_nan_left, quotient_nan_left, Option.map_none]
  · obtain ⟨s, f, e⟩ := nan_form h
    cases op <;> simp only [Ieee.Format.add, Ieee.Format.sub, Ieee.Format.mul, Ieee.Format.div, e, sum_nan_right, product_nan_right, quotient_nan_right, Option.map_none, Ieee.Datum.opposite]
theorem fop_nan {op : BinOp} {k : FloatKind} {x y : Nat} (h : nanB k x = true ∨ nanB k y = true) : fop op k x y = qn k := by
  unfold fop
  rw [floatBits_nan h]; rfl
theorem fin_num {x : Nat} (h : finB x = true) : nanB .f32 x = false := by
  cases hn : nanB .f32 x with
  | false => rfl
  | true =>
    unfold finB at h
    rw [fop_nan (.inl hn), (fcmp_nan .f32 (.inl (nanB_qn .f32))).1] at h
    cases h
theorem nan_zero : nanB .f32 0 = false := by decide +kernel
theorem leq_not_gtr {x y : Nat} (hx : nanB .f32 x = false) (hy : nanB .f32 y = false) : fcmp .leq .f32 x y = !fcmp .gtr .f32 x y := by
  obtain ⟨_, _, _, h4, h5, _⟩ := fcmp_num .f32 hx hy
  rw [h4, h5]
  by_cases h : srung FloatKind.f32.format x ≤ srung FloatKind.f32.format y
  · rw [decide_eq_true h, decide_eq_false (by omega)]; rfl
  · rw [decide_eq_false h, decide_eq_true (by omega)]; rfl
theorem impl_IsFinite_eq (x : Nat) : zab x = some (finB x) := rfl
theorem spec_l01Finite_eq (x : Nat) : z9e x = some (finB x) := rfl
theorem impl_isLeast_eq (x : Nat) : z96 x = some (leastB x) := by
  obtain ⟨h1, h2⟩ := z8b (impl_IsFinite_eq x)
  unfold z96 z99 leastB
  rw [h1, h2]
  cases finB x <;> rfl
theorem spec_l02Least_eq (x : Nat) : z8k x = some (leastB x) := by
  obtain ⟨h1, h2⟩ := z7m (spec_l01Finite_eq x)
  unfold z8k z8t leastB
  rw [h1, h2]
  cases finB x <;> rfl
theorem spec_l02Above_eq (x : Nat) : z8p x = some (posB x) := by
  obtain ⟨h1, h2⟩ := z7m (spec_l01Finite_eq x)
  unfold z8p z8s posB
  rw [h1, h2]
  cases finB x <;> rfl
theorem impl_arePositive_1_eq (x : Nat) : z68 x = some (!posB x) := by
  obtain ⟨h1, h2⟩ := z8b (impl_IsFinite_eq x)
  unfold z68 z67 posB
  rw [h1, h2]
  cases hf : finB x with
  | false => rfl
  | true => simp only [br_if, grd_true, bnot, Bool.not_true, leq_not_gtr (fin_num hf) nan_zero]; simp
theorem impl_areLeast_1_eq (x : Nat) : z7a x = some (!leastB x) := by
  obtain ⟨h1, h2⟩ := zep (impl_isLeast_eq x)
  unfold z7a z7e
  rw [h1, h2]; rfl
def checkV (x : Nat) : Nat := if finB x then x else 0
theorem impl_checked_eq (x : Nat) : z87 x = some (checkV x, finB x) := by
  obtain ⟨h1, h2⟩ := z8b (impl_IsFinite_eq x)
  unfold z87 z93 checkV
  rw [h1, h2]
  cases finB x <;> rfl
theorem laws_sameFloat_refl (x : Nat) : z83 x x = some true := by
  unfold z83 z88
  simp only [neq_self]
  cases hn : nanB .f64 x with
  | true => rfl
  | false =>
    have he : fcmp .eql .f64 x x = true := by rw [(fcmp_num .f64 hn hn).1]; simp
    simp only [br_if, Bool.false_eq_true, if_false, he, beqB, BEq.rfl]
    split <;> rfl
theorem slices_IndexFunc_areLeast {xs : List Nat} (hl : xs.length < 281474976710656) : ∃ r : Int, z4e xs.length xs = some r ∧ leI 0 r = !xs.all leastB := by
  unfold z4e z4d
  rcases scan_all (L := z1s xs.length (Int.ofNat xs.length) xs) xs leastB (g := fun i => Int.ofNat i) (e := (Int.ofNat xs.length, false))
    (fun n i hi => by
      rw [z6a]; unfold z3n; rw [ltN_t hi, okIx_t hi, ix1, addI1 (by omega)]
      simp only [gF]
      generalize xs.getD i 0 = x
      obtain ⟨h1, h2⟩ := zhc (impl_areLeast_1_eq x)
      simp only [br_if, grd_true, h1, h2]
      rcases Bool.eq_false_or_eq_true (leastB x) with h | h <;> simp [h])
    (fun n => by rw [z6a]; unfold z3n; rw [ltN_f (Nat.le_refl _)]; rfl) hl with ⟨h1, h2⟩ | ⟨j, h2, h3, h4⟩
  · obtain ⟨g1, g2, _⟩ := zas rfl h2
    exact ⟨Int.negSucc 0, by rw [g1, g2]; rfl, by rw [h1]; rfl⟩
  · obtain ⟨g1, g2, g3⟩ := zav rfl h4
    exact ⟨Int.ofNat j, by rw [g1, g2, g3]; rfl, by rw [h3]; exact decide_eq_true (by simp)⟩
theorem slices_ContainsFunc_areLeast {xs : List Nat} (hl : xs.length < 281474976710656) : z46 xs.length xs = some (!xs.all leastB) := by
  obtain ⟨r, h1, h2⟩ := slices_IndexFunc_areLeast hl
  obtain ⟨g1, g2⟩ := zce h1
  unfold z46 z49
  rw [pF_all, g1, g2, h2]; rfl
theorem impl_areLeast_eq {xs : List Nat} (hl : xs.length < 281474976710656) : z8q xs.length xs = some (xs.all leastB) := by
  obtain ⟨g1, g2⟩ := zbg (slices_ContainsFunc_areLeast hl)
  unfold z8q z8u
  rw [pF_all, g1, g2]
  simp [grd_true, bnot]
theorem slices_IndexFunc_arePositive {xs : List Nat} (hl : xs.length < 281474976710656) : ∃ r : Int, z47 xs.length xs = some r ∧ leI 0 r = !xs.all posB := by
  unfold z47 z45
  rcases scan_all (L := z1d xs.length (Int.ofNat xs.length) xs) xs posB (g := fun i => Int.ofNat i) (e := (Int.ofNat xs.length, false))
    (fun n i hi => by
      rw [z62]; unfold z3f; rw [ltN_t hi, okIx_t hi, ix1, addI1 (by omega)]
      simp only [gF]
      generalize xs.getD i 0 = x
      obtain ⟨h1, h2⟩ := zfm (impl_arePositive_1_eq x)
      simp only [br_if, grd_true, h1, h2]
      rcases Bool.eq_false_or_eq_true (posB x) with h | h <;> simp [h])
    (fun n => by rw [z62]; unfold z3f; rw [ltN_f (Nat.le_refl _)]; rfl) hl with ⟨h1, h2⟩ | ⟨j, h2, h3, h4⟩
  · obtain ⟨g1, g2, _⟩ := z9n rfl h2
    exact ⟨Int.negSucc 0, by rw [g1, g2]; rfl, by rw [h1]; rfl⟩
  · obtain ⟨g1, g2, g3⟩ := z9r rfl h4
    exact ⟨Int.ofNat j, by rw [g1, g2, g3]; rfl, by rw [h3]; exact decide_eq_true (by simp)⟩
theorem slices_ContainsFunc_arePositive {xs : List Nat} (hl : xs.length < 281474976710656) : z3x xs.length xs = some (!xs.all posB) := by
  obtain ⟨r, h1, h2⟩ := slices_IndexFunc_arePositive hl
  obtain ⟨g1, g2⟩ := zbp h1
  unfold z3x z3w
  rw [pF_all, g1, g2, h2]; rfl
theorem impl_arePositive_eq {xs : List Nat} (hl : xs.length < 281474976710656) : z63 xs.length xs = some (xs.all posB) := by
  obtain ⟨g1, g2⟩ := zak (slices_ContainsFunc_arePositive hl)
  unfold z63 z6y
  rw [pF_all, g1, g2]
  simp [grd_true, bnot]
def fromToB (x low high : Nat) : Bool := fcmp .geq .f32 x low && fcmp .leq .f32 x high
theorem impl_isFromTo_eq (x low high : Nat) : z8r x low high = some (fromToB x low high) := by
  unfold z8r z8n fromToB
  rcases Bool.eq_false_or_eq_true (fcmp .geq .f32 x low) with h | h <;> simp [h, br_if]
theorem laws_szFloat32S_eq (n : Nat) (xs : List Nat) (left : Int) : ∃ r, z7g n xs left = some r ∧ (0 ≤ left → left ≤ 1048576 → n ≤ 9223372036854775807 → (0 ≤ r → r = left - n ∧ (n : Int) ≤ left) ∧ r ≤ 1048576) := by
  unfold z7g z7b
  by_cases h : subI .i64 left (Int.ofNat n) < 0
  · rw [ltI_t h]
    exact ⟨_, rfl, fun _ _ _ => ⟨fun q => by simp at q, by decide⟩⟩
  · rw [ltI_f h]
    refine ⟨_, rfl, fun h1 h2 h3 => ?_⟩
    have e : subI .i64 left (Int.ofNat n) = left - n := wrap64 (by simp; omega) (by simp; omega)
    rw [e] at h ⊢
    exact ⟨fun _ => ⟨rfl, by omega⟩, by omega⟩
theorem laws_toFloat32S_eq {xs : List Nat} (hl : xs.length ≤ 1099511627776) : z6e xs.length xs = some (xs.length, xs) := by
  have hf := folds (L := z4g xs.length xs.length xs) (len := xs.length) (fun i s => s.set i (xs.getD i 0)) (e := fun s => (Int.ofNat xs.length, false, s))
    (fun n i s hi => by rw [zcl]; unfold z55; rw [ltN_t hi, okIx_t hi, ix1, addI1 (by omega)]; rfl)
    (fun n s => by rw [zcl]; unfold z55; rw [ltN_f (Nat.le_refl _)]; rfl) xs.length 0 big (List.replicate xs.length 0) (by omega) (big_gt (by omega))
  rw [copy_fold xs _ _ _ (by omega) (by simp)] at hf
  simp only [List.take_zero, List.drop_zero, List.nil_append] at hf
  obtain ⟨g1, _, _, g2⟩ := zf3 rfl hf
  have e : rF (muN (toN (Int.ofNat xs.length)) 1) = List.replicate xs.length 0 := by simp [rF, muN, toN]
  have ho : okMk (Int.ofNat xs.length) (Int.ofNat xs.length) 4 = true := decide_eq_true ⟨rfl, by simp, by simp; omega, by decide⟩
  unfold z6e z7r
  rw [e, ho, toN_nat]
  show grd (z79 xs.length xs.length xs (Int.ofNat 0) (List.replicate xs.length 0)) (some (_, z69 xs.length xs.length xs (Int.ofNat 0) (List.replicate xs.length 0))) = _
  rw [g1, g2]; rfl
theorem laws_eqFloat32S_refl {xs : List Nat} (hl : xs.length < 281474976710656) : z7u xs.length xs xs.length xs = some true := by
  have hn : neI (Int.ofNat xs.length) (Int.ofNat xs.length) = false := by simp [neI]
  unfold z7u z7v
  rw [hn]
  rcases scan_all (L := z4h xs.length xs.length xs xs) xs (fun _ => true) (g := fun i => ()) (e := (Int.ofNat xs.length, false))
    (fun n i hi => by
      obtain ⟨h1, h2⟩ := z6d (laws_sameFloat_refl (fcvV FloatKind.f32 FloatKind.f64 (gF xs i)))
      rw [zcm]; unfold z59; rw [ltN_t hi, okIx_t hi, ix1, addI1 (by omega), h1, h2]
      rfl)
    (fun n => by rw [zcm]; unfold z59; rw [ltN_f (Nat.le_refl _)]; rfl) hl with ⟨h1, h2⟩ | ⟨j, h2, h3, h4⟩
  · obtain ⟨g1, g2, _⟩ := zex rfl h2
    rw [g1, g2]; rfl
  · simp at h3
theorem beqB_self (b : Bool) : beqB b b = true := by cases b <;> rfl
theorem neI_self (i : Int) : neI i i = false := by simp [neI]
theorem bnot_true : bnot true = false := rfl
theorem ltN (a b : Nat) : ltI (Int.ofNat a) (Int.ofNat b) = decide (a < b) := by by_cases h : a < b <;> simp [ltI, h] <;> omega
theorem get_mem {xs : List Nat} {i : Nat} (h : i < xs.length) : xs.getD i 0 ∈ xs := by
  rw [List.getD_eq_getElem?_getD, List.getElem?_eq_getElem h]; exact List.getElem_mem _
def inB (n low high : Int) : Bool := decide (low ≤ n) && decide (n ≤ high)
theorem spec_l00In_eq (n low high : Int) : zbr n low high = some (inB n low high) := by
  unfold zbr zbu inB leI
  cases decide (low ≤ n) <;> rfl
theorem impl_within_eq (n low high : Int) : z9y n low high = some (inB n low high) := by
  unfold z9y z9z inB leI
  cases decide (low ≤ n) <;> rfl
theorem inB_le {n l h : Int} (e : inB n l h = true) : l ≤ n ∧ n ≤ h := by
  unfold inB at e
  rw [Bool.and_eq_true] at e
  exact ⟨of_decide_eq_true e.1, of_decide_eq_true e.2⟩
theorem take_succ_getD {ys : List Nat} {i : Nat} (h : i < ys.length) : ys.take i ++ [ys.getD i 0] = ys.take (i + 1) := by
  rw [List.take_succ_eq_append_getElem h]; simp [List.getD_eq_getElem?_getD, h]
theorem runs {ρ : Type} {L : Nat → Int → Option ρ} {len : Nat} {e : ρ} (hs : ∀ n i, i < len → L (n + 1) (Int.ofNat i) = L n (Int.ofNat (i + 1))) (he : ∀ n, L (n + 1) (Int.ofNat len) = some e) (hl : len < 281474976710656) : L big 0 = some e := by
  have := folds (L := fun n i (_ : Unit) => L n i) (len := len) (fun _ _ => ()) (e := fun _ => e) (fun n i _ hi => hs n i hi) (fun n _ => he n) len 0 big () (by omega) (big_gt hl)
  exact this
theorem impl_areFinite_1_eq (x : Nat) : z6t x = some (!finB x) := by
  obtain ⟨h1, h2⟩ := z8b (impl_IsFinite_eq x)
  unfold z6t z70
  rw [h1, h2]; rfl
theorem slices_IndexFunc_areFinite {xs : List Nat} (hl : xs.length < 281474976710656) : ∃ r : Int, z4a xs.length xs = some r ∧ leI 0 r = !xs.all finB := by
  unfold z4a z4b
  rcases scan_all (L := z1l xs.length (Int.ofNat xs.length) xs) xs finB (g := fun i => Int.ofNat i) (e := (Int.ofNat xs.length, false))
    (fun n i hi => by
      rw [z66]; unfold z3k; rw [ltN_t hi, okIx_t hi, ix1, addI1 (by omega)]
      simp only [gF]
      generalize xs.getD i 0 = x
      obtain ⟨h1, h2⟩ := zgp (impl_areFinite_1_eq x)
      simp only [br_if, grd_true, h1, h2]
      rcases Bool.eq_false_or_eq_true (finB x) with h | h <;> simp [h])
    (fun n => by rw [z66]; unfold z3k; rw [ltN_f (Nat.le_refl _)]; rfl) hl with ⟨h1, h2⟩ | ⟨j, h2, h3, h4⟩
  · obtain ⟨g1, g2, _⟩ := zar rfl h2
    exact ⟨Int.negSucc 0, by rw [g1, g2]; rfl, by rw [h1]; rfl⟩
  · obtain ⟨g1, g2, g3⟩ := zan rfl h4
    exact ⟨Int.ofNat j, by rw [g1, g2, g3]; rfl, by rw [h3]; exact decide_eq_true (by simp)⟩
theorem slices_ContainsFunc_areFinite {xs : List Nat} (hl : xs.length < 281474976710656) : z42 xs.length xs = some (!xs.all finB) := by
  obtain ⟨r, h1, h2⟩ := slices_IndexFunc_areFinite hl
  obtain ⟨g1, g2⟩ := zcb h1
  unfold z42 z40
  rw [pF_all, g1, g2, h2]; rfl
theorem impl_areFinite_eq {xs : List Nat} (hl : xs.length < 281474976710656) : z86 xs.length xs = some (xs.all finB) := by
  obtain ⟨g1, g2⟩ := zau (slices_ContainsFunc_areFinite hl)
  unfold z86 z85
  rw [pF_all, g1, g2]
  simp [grd_true, bnot]
def walkS {σ α β : Type} (p : Nat → σ → Bool) (f : Nat → σ → σ) (g : Nat → σ → α) (e : σ → β) : Nat → Nat → σ → α ⊕ β
  | 0, _, s => .inr (e s)
  | k + 1, i, s => if p i s = true then walkS p f g e k (i + 1) (f i s) else .inl (g i s)
theorem walks {σ α β : Type} {L : Nat → Int → σ → Option (α ⊕ β)} {len : Nat} (p : Nat → σ → Bool) (f : Nat → σ → σ) {g : Nat → σ → α} {e : σ → β}
    (hs : ∀ n i s, i < len → L (n + 1) (Int.ofNat i) s = if p i s = true then L n (Int.ofNat (i + 1)) (f i s) else some (.inl (g i s))) (he : ∀ n s, L (n + 1) (Int.ofNat len) s = some (.inr (e s))) :
    ∀ k i n s, i + k = len → k < n → L n (Int.ofNat i) s = some (walkS p f g e k i s)
  | 0, i, n, s, hk, hn => by
    obtain ⟨n, rfl⟩ : ∃ m, n = m + 1 := ⟨n - 1, by omega⟩
    obtain rfl : i = len := by omega
    exact he n s
  | k + 1, i, n, s, hk, hn => by
    obtain ⟨n, rfl⟩ : ∃ m, n = m + 1 := ⟨n - 1, by omega⟩
    rw [hs n i s (by omega)]
    unfold walkS
    cases p i s
    · simp
    · simp only [if_true]
      exact walks p f hs he k (i + 1) n (f i s) (by omega) (by omega)
theorem walkS_map {σ α β γ : Type} {p : Nat → σ → Bool} {f : Nat → σ → σ} {g : Nat → σ → α} {e : σ → β} : ∀ (k i : Nat) (s : σ), walkS p f g e k i s = (walkS p f g id k i s).map id e
  | 0, i, s => rfl
  | k + 1, i, s => by
    unfold walkS
    by_cases h : p i s = true
    · rw [if_pos h, if_pos h]; exact walkS_map (γ := γ) k (i + 1) (f i s)
    · rw [if_neg h, if_neg h]; rfl
theorem ix3 (i : Nat) : ixO 0 (Int.ofNat i) 3 = i * 3 := by simp [ixO]
theorem put1 {xs zs : List Nat} (hz : zs.length = xs.length) {j : Nat} (h : j < xs.length) : (xs.take j ++ zs.drop j).set j (xs.getD j 0) = xs.take (j + 1) ++ zs.drop (j + 1) := by
  have h1 : (xs.take j).length = j := by simp; omega
  have h2 : zs.drop j = zs[j] :: zs.drop (j + 1) := List.drop_eq_getElem_cons (by omega)
  rw [← take_succ_getD h, h2, List.set_append_right j _ (by omega), h1, Nat.sub_self, List.set_cons_zero, List.append_assoc]
  rfl
theorem put3 {xs zs : List Nat} {n i : Nat} (hx : xs.length = n * 3) (hz : zs.length = xs.length) (h : i < n) :
    ((((xs.take (i * 3) ++ zs.drop (i * 3)).set (i * 3) (xs.getD (i * 3) 0)).set (i * 3).succ (xs.getD (i * 3).succ 0)).set (i * 3).succ.succ (xs.getD (i * 3).succ.succ 0)) = xs.take ((i + 1) * 3) ++ zs.drop ((i + 1) * 3) := by
  rw [put1 hz (by omega), put1 hz (j := (i * 3).succ) (by omega), put1 hz (j := (i * 3).succ.succ) (by omega)]
  simp only [Nat.succ_eq_add_one, Nat.add_mul, Nat.one_mul]
theorem okMk_t {n b : Nat} (h : n ≤ 1099511627776) (hb : b ≤ 64) : okMk (Int.ofNat n) (Int.ofNat n) b = true := decide_eq_true ⟨rfl, by simp, by simp; omega, hb⟩
theorem laws_toStation_p_eq (a b c : Nat) : zd7 a b c = true := rfl
theorem laws_toStationS_eq {xs : List Nat} {n : Nat} (hx : xs.length = n * 3) (hl : n ≤ 1099511627776) : z6f n xs = some (n, xs) := by
  have hz : (rF (muN (toN (Int.ofNat n)) 3)).length = xs.length := by simp [rF, muN, hx]
  have hf := runs (L := fun m i => z3t n n xs m i (xs.take (i.toNat * 3) ++ (rF (muN (toN (Int.ofNat n)) 3)).drop (i.toNat * 3))) (len := n) (e := (Int.ofNat n, false, xs))
    (fun m i hi => by
      show z3t n n xs _ _ (xs.take (i * 3) ++ (rF (muN (toN (Int.ofNat n)) 3)).drop (i * 3)) = z3t n n xs _ _ (xs.take ((i + 1) * 3) ++ (rF (muN (toN (Int.ofNat n)) 3)).drop ((i + 1) * 3))
      rw [← put3 hx hz hi, zco]; unfold z57
      rw [ltN_t hi, okIx_t hi, ix3, addI1 (by omega), laws_toStation_p_eq]; rfl)
    (fun m => by
      show z3t n n xs _ _ (xs.take (n * 3) ++ (rF (muN (toN (Int.ofNat n)) 3)).drop (n * 3)) = _
      rw [zco]; unfold z57; rw [ltN_f (Nat.le_refl _), br_false, List.take_of_length_le (by omega), List.drop_of_length_le (by omega), List.append_nil]) (by omega)
  obtain ⟨g1, _, _, g2⟩ := zf1 rfl hf
  have e0 : xs.take (Int.toNat 0 * 3) ++ (rF (muN (toN (Int.ofNat n)) 3)).drop (Int.toNat 0 * 3) = rF (muN (toN (Int.ofNat n)) 3) := by simp
  rw [e0] at g1 g2
  unfold z6f z7q
  rw [okMk_t hl (by omega)]
  show grd (z77 n n xs 0 (rF (muN (toN (Int.ofNat n)) 3))) (some (n, z6b n n xs 0 (rF (muN (toN (Int.ofNat n)) 3)))) = _
  rw [g1, g2]; rfl
theorem laws_eqStation_refl (a b c : Nat) : z8a a b c a b c = some true := by
  obtain ⟨p1, q1⟩ := z6d (laws_sameFloat_refl (fcvV .f32 .f64 a))
  obtain ⟨p2, q2⟩ := z6d (laws_sameFloat_refl (fcvV .f32 .f64 b))
  obtain ⟨p3, q3⟩ := z6d (laws_sameFloat_refl (fcvV .f32 .f64 c))
  unfold z8a z8e
  rw [p1, q1, p2, q2, p3, q3]; rfl
theorem laws_eqStationS_refl {xs : List Nat} {n : Nat} (hl : n < 281474976710656) : z7c n xs n xs = some true := by
  unfold z7c z7l
  rw [neI_self]
  rcases scan (L := z4i n n xs xs) (len := n) (fun _ => true) (g := fun i => ()) (e := (Int.ofNat n, false))
    (fun m i hi => by
      rw [zck]; unfold z54
      obtain ⟨h1, h2⟩ := zhw (laws_eqStation_refl (gF xs (ixO 0 (Int.ofNat i) 3)) (gF xs (Nat.succ (ixO 0 (Int.ofNat i) 3))) (gF xs (Nat.succ (Nat.succ (ixO 0 (Int.ofNat i) 3)))))
      rw [ltN_t hi, okIx_t hi, addI1 (by omega), h1, h2]; rfl)
    (fun m => by rw [zck]; unfold z54; rw [ltN_f (Nat.le_refl _)]; rfl) n 0 big (by omega) (big_gt hl) with ⟨h1, h2⟩ | ⟨j, _, h2, h3, h4⟩
  · obtain ⟨g1, g2, _⟩ := zeu rfl h2
    show grd (z73 n n xs xs (Int.ofNat 0)) (br (z6r n n xs xs (Int.ofNat 0)) _ _) = _
    rw [g1, g2]; rfl
  · cases h3
theorem laws_szStationS_eq (n : Nat) (xs : List Nat) (left : Int) : ∃ r, z7s n xs left = some r ∧ (0 ≤ left → left ≤ 1048576 → n ≤ 9223372036854775807 → (0 ≤ r → r = left - n ∧ (n : Int) ≤ left) ∧ r ≤ 1048576) := by
  unfold z7s z7d
  by_cases h : subI .i64 left (Int.ofNat n) < 0
  · rw [ltI_t h]
    exact ⟨_, rfl, fun _ _ _ => ⟨fun q => by simp at q, by decide⟩⟩
  · rw [ltI_f h]
    refine ⟨_, rfl, fun h1 h2 h3 => ?_⟩
    have e : subI .i64 left (Int.ofNat n) = left - n := wrap64 (by simp; omega) (by simp; omega)
    rw [e] at h ⊢
    exact ⟨fun _ => ⟨rfl, by omega⟩, by omega⟩
theorem laws_szProfile_eq {as ls ds : List Nat} {left : Int} (ha : as.length ≤ maxLen) (hl : ls.length ≤ maxLen) (hd : ds.length ≤ maxLen) (h0 : 0 ≤ left) (h1 : left ≤ 1048576) :
    ∃ r, z89 as.length as ls.length ls ds.length ds left = some r ∧ (0 ≤ r → as.length + ls.length + ds.length ≤ 1048576) ∧ r ≤ 1048576 := by
  have hm : maxLen = 9223372036854775807 := by decide
  rw [hm] at ha hl hd
  obtain ⟨r1, h2, k1⟩ := laws_szFloat32S_eq as.length as left
  obtain ⟨p1, q1⟩ := zcz h2
  obtain ⟨k1, k1'⟩ := k1 h0 h1 ha
  obtain ⟨r2, h3, k2⟩ := laws_szFloat32S_eq ls.length ls r1
  obtain ⟨p2, q2⟩ := zcz h3
  obtain ⟨r3, h4, k3⟩ := laws_szFloat32S_eq ds.length ds r2
  obtain ⟨p3, q3⟩ := zcz h4
  unfold z89 z8d
  simp only [pF_all, p1, q1, grd_true, p2, q2, p3, q3]
  by_cases c1 : r1 < 0
  · rw [ltI_t c1]
    exact ⟨_, rfl, fun h => by simp at h, by decide⟩
  · rw [ltI_f c1]
    obtain ⟨e1, e2⟩ := k1 (by omega)
    obtain ⟨k2, k2'⟩ := k2 (by omega) (by omega) hl
    by_cases c2 : r2 < 0
    · rw [ltI_t c2]
      exact ⟨_, rfl, fun h => by simp at h, by decide⟩
    · rw [ltI_f c2]
      obtain ⟨e3, e4⟩ := k2 (by omega)
      obtain ⟨k3, k3'⟩ := k3 (by omega) (by omega) hd
      by_cases c3 : r3 < 0
      · rw [ltI_t c3]
        exact ⟨_, rfl, fun h => by simp at h, by decide⟩
      · rw [ltI_f c3]
        obtain ⟨e5, e6⟩ := k3 (by omega)
        exact ⟨_, rfl, fun h => by omega, by omega⟩
theorem laws_toProfile_eq {as ls ds : List Nat} (ha : as.length ≤ 1099511627776) (hl : ls.length ≤ 1099511627776) (hd : ds.length ≤ 1099511627776) : z5d as.length as ls.length ls ds.length ds = some (as.length, ls.length, ds.length, as, ls, ds) := by
  obtain ⟨p1, q1, r1⟩ := zcy (laws_toFloat32S_eq ha)
  obtain ⟨p2, q2, r2⟩ := zcy (laws_toFloat32S_eq hl)
  obtain ⟨p3, q3, r3⟩ := zcy (laws_toFloat32S_eq hd)
  unfold z5d z82
  simp only [pF_all, p1, q1, r1, p2, q2, r2, p3, q3, r3, grd_true]
theorem laws_eqProfile_refl {as ls ds : List Nat} (ha : as.length < 281474976710656) (hl : ls.length < 281474976710656) (hd : ds.length < 281474976710656) : z80 as.length as ls.length ls ds.length ds as.length as ls.length ls ds.length ds = some true := by
  obtain ⟨p1, q1⟩ := zd2 (laws_eqFloat32S_refl ha)
  obtain ⟨p2, q2⟩ := zd2 (laws_eqFloat32S_refl hl)
  obtain ⟨p3, q3⟩ := zd2 (laws_eqFloat32S_refl hd)
  unfold z80 z84
  simp only [pF_all, p1, q1, p2, q2, p3, q3, grd_true]
  rfl
theorem rotor_law {as ls ds st : List Nat} {n : Nat} {count : Int} {hub tip : Nat} (ma : as.length ≤ maxLen) (ml : ls.length ≤ maxLen) (md : ds.length ≤ maxLen) (z : st.length = n * 3) (mn : n ≤ maxLen) {left : Int} (h0 : 0 ≤ left) (h1 : left ≤ 1048576) :
    ∃ r, zbx as.length as ls.length ls ds.length ds n st count hub tip left = true ∧ za6 as.length as ls.length ls ds.length ds n st count hub tip left = r ∧ r ≤ 1048576 ∧
    (r < 0 ∨ (ltI r 0 = false ∧ as.length + ls.length + ds.length + n ≤ 2097152 ∧ z81 as.length as ls.length ls ds.length ds n st count hub tip = true ∧ z3g as.length as ls.length ls ds.length ds n st count hub tip = as.length ∧
      z3h as.length as ls.length ls ds.length ds n st count hub tip = ls.length ∧ z3j as.length as ls.length ls ds.length ds n st count hub tip = ds.length ∧ z3i as.length as ls.length ls ds.length ds n st count hub tip = n ∧
      z4j as.length as ls.length ls ds.length ds n st count hub tip = as ∧ z4m as.length as ls.length ls ds.length ds n st count hub tip = ls ∧ z4k as.length as ls.length ls ds.length ds n st count hub tip = ds ∧ z4l as.length as ls.length ls ds.length ds n st count hub tip = st ∧
      zbk as.length as ls.length ls ds.length ds n st count hub tip as.length as ls.length ls ds.length ds n st count hub tip = true ∧ zac as.length as ls.length ls ds.length ds n st count hub tip as.length as ls.length ls ds.length ds n st count hub tip = true)) := by
  have hm : maxLen = 9223372036854775807 := by decide
  obtain ⟨r1, h2, k1, k1'⟩ := laws_szProfile_eq ma ml md h0 h1
  obtain ⟨p1, q1⟩ := zho h2
  obtain ⟨r2, h3, k2⟩ := laws_szStationS_eq n st r1
  obtain ⟨p2, q2⟩ := zh1 h3
  have hst : pF st 0 (muN n 3) = st := pF_all3 z
  have key : z9a as.length as ls.length ls ds.length ds n st count hub tip left = some (if r1 < 0 then -1 else if r2 < 0 then -1 else r2) := by
    unfold z9a z98
    simp only [pF_all, hst, p1, q1, grd_true, p2, q2]
    by_cases c1 : r1 < 0
    · rw [ltI_t c1, if_pos c1]; rfl
    · rw [ltI_f c1, if_neg c1]
      by_cases c2 : r2 < 0
      · rw [ltI_t c2, if_pos c2]; rfl
      · rw [ltI_f c2, if_neg c2]; rfl
  obtain ⟨p0, q0⟩ := zim key
  refine ⟨_, p0, q0, ?_, ?_⟩
  · by_cases c1 : r1 < 0
    · rw [if_pos c1]; decide
    · rw [if_neg c1]
      by_cases c2 : r2 < 0
      · rw [if_pos c2]; decide
      · rw [if_neg c2]
        exact (k2 (by omega) (by omega) (by rw [hm] at mn; exact mn)).2
  · by_cases c1 : r1 < 0
    · rw [if_pos c1]; exact .inl (by decide)
    · rw [if_neg c1]
      by_cases c2 : r2 < 0
      · rw [if_pos c2]; exact .inl (by decide)
      · rw [if_neg c2]
        have l1 := k1 (by omega)
        obtain ⟨k2, _⟩ := k2 (by omega) (by omega) (by rw [hm] at mn; exact mn)
        obtain ⟨_, l2⟩ := k2 (by omega)
        obtain ⟨p3, a3, b3, c3, d3, e3, f3⟩ := zhf (laws_toProfile_eq (as := as) (ls := ls) (ds := ds) (by omega) (by omega) (by omega))
        obtain ⟨p4, a4, b4⟩ := zhe (laws_toStationS_eq z (by omega))
        have kt : z5a as.length as ls.length ls ds.length ds n st count hub tip = some (as.length, ls.length, ds.length, n, as, ls, ds, st) := by
          unfold z5a z97
          simp only [pF_all, hst, p3, a3, b3, c3, d3, e3, f3, p4, a4, b4, grd_true]
        obtain ⟨p5, q5⟩ := zhp (laws_eqProfile_refl (as := as) (ls := ls) (ds := ds) (by omega) (by omega) (by omega))
        obtain ⟨p6, q6⟩ := zhb (laws_eqStationS_refl (xs := st) (n := n) (by omega))
        obtain ⟨p7, q7⟩ := z6d (laws_sameFloat_refl (fcvV .f32 .f64 hub))
        obtain ⟨p8, q8⟩ := z6d (laws_sameFloat_refl (fcvV .f32 .f64 tip))
        have ke : z95 as.length as ls.length ls ds.length ds n st count hub tip as.length as ls.length ls ds.length ds n st count hub tip = some true := by
          unfold z95 z94
          simp only [pF_all, hst, p5, q5, p6, q6, p7, q7, p8, q8, grd_true, neI_self, bnot_true, br_false]
        obtain ⟨t0, t1, t2, t3, t4, t5, t6, t7, t8⟩ := ziw kt
        obtain ⟨e0, e1⟩ := zio ke
        exact .inr ⟨ltI_f c2, by omega, t0, t1, t2, t3, t4, t5, t6, t7, t8, e0, e1⟩
def knotB (as : List Nat) (j : Nat) : Bool := fromToB (as.getD j 0) 3204448256 1056964608 && (decide (j = 0) || !fcmp .leq .f32 (as.getD j 0) (as.getD (j - 1) 0))
def profB (as ls ds : List Nat) (j : Nat) : Bool := knotB as j && (finB (ls.getD j 0) && leastB (ds.getD j 0))
def validProfB (as ls ds : List Nat) : Bool := decide (2 ≤ as.length) && (decide (as.length ≤ 24) && (decide (ls.length = as.length) && (decide (ds.length = as.length) && (List.range as.length).all (profB as ls ds))))
theorem range_all {n : Nat} {p : Nat → Bool} : (List.range n).all p = true ↔ ∀ j, j < n → p j = true := by simp [List.all_eq_true]
theorem geq_leq {x y : Nat} : fcmp .geq .f32 x y = fcmp .leq .f32 y x := by
  cases hx : nanB .f32 x with
  | true => rw [(fcmp_nan .f32 (.inl hx)).2.2.2.2.2, (fcmp_nan .f32 (.inr hx)).2.2.2.1]
  | false =>
    cases hy : nanB .f32 y with
    | true => rw [(fcmp_nan .f32 (.inr hy)).2.2.2.2.2, (fcmp_nan .f32 (.inl hy)).2.2.2.1]
    | false => rw [(fcmp_num .f32 hx hy).2.2.2.2.2, (fcmp_num .f32 hy hx).2.2.2.1]
theorem ltN0 (i : Nat) : ltI 0 (Int.ofNat i) = !decide (i = 0) := by
  rw [show ltI 0 (Int.ofNat i) = decide (0 < i) from ltN 0 i]
  by_cases h : i = 0
  · rw [decide_eq_true h, decide_eq_false (by omega)]; rfl
  · rw [decide_eq_false h, decide_eq_true (by omega)]; rfl
theorem subN1 {i : Nat} (h : i ≠ 0) (h2 : i < 4611686018427387904) : subI .i64 (Int.ofNat i) 1 = Int.ofNat (i - 1) := by
  have : subI .i64 (Int.ofNat i) 1 = (i : Int) - 1 := wrap64 (by simp; omega) (by simp; omega)
  rw [this]; simp; omega
theorem impl_ValidProfile_loop {as : List Nat} (hl : as.length ≤ 24) :
    z5n as.length (Int.ofNat as.length) as as.length 0 = true ∧ z5i as.length (Int.ofNat as.length) as as.length 0 = !(List.range as.length).all (knotB as) := by
  rcases scan (L := z3v as.length (Int.ofNat as.length) as as.length) (len := as.length) (knotB as) (g := fun _ => ()) (e := (Int.ofNat as.length, false))
    (fun n i hi => by
      rw [zc3]; unfold z4t
      obtain ⟨p1, q1⟩ := zif (impl_isFromTo_eq (as.getD i 0) 3204448256 1056964608)
      rw [ltN_t hi, okIx_t hi, ix1, addI1 (by omega), ltN0]
      simp only [gF, p1, q1, grd_true, br_true]
      unfold knotB
      by_cases h0 : i = 0
      · subst h0
        cases fromToB (as.getD 0 0) 3204448256 1056964608 <;> rfl
      · rw [subN1 h0 (by omega), okIx_t (show i - 1 < as.length by omega), ix1, geq_leq, decide_eq_false h0]
        cases fromToB (as.getD i 0) 3204448256 1056964608
        · rfl
        · cases fcmp .leq .f32 (as.getD i 0) (as.getD (i - 1) 0) <;> rfl)
    (fun n => by rw [zc3]; unfold z4t; rw [ltN_f (Nat.le_refl _)]; rfl) as.length 0 big (by omega) (big_gt (by omega)) with ⟨h1, h2⟩ | ⟨j, _, h2, h3, h4⟩
  · obtain ⟨g1, g2, _⟩ := zee rfl h2
    rw [range_all.2 fun j hj => h1 j (Nat.zero_le _) hj]
    exact ⟨g1, g2⟩
  · obtain ⟨g1, g2⟩ := ze8 rfl h4
    have : (List.range as.length).all (knotB as) = false := by
      cases hh : (List.range as.length).all (knotB as) with
      | false => rfl
      | true => rw [range_all.1 hh j h2] at h3; cases h3
    rw [this]
    exact ⟨g1, g2⟩
theorem all_getD {xs : List Nat} {p : Nat → Bool} : xs.all p = true ↔ ∀ j, j < xs.length → p (xs.getD j 0) = true := by
  rw [List.all_eq_true]
  constructor
  · intro h j hj; exact h _ (get_mem hj)
  · intro h x hx
    obtain ⟨i, hi, rfl⟩ := List.getElem_of_mem hx
    have := h i hi
    simpa [List.getD_eq_getElem?_getD, hi] using this
theorem ltN2 (n : Nat) : ltI (Int.ofNat n) 2 = !decide (2 ≤ n) := by
  rw [show ltI (Int.ofNat n) 2 = decide (n < 2) from ltN n 2]
  by_cases h : 2 ≤ n
  · rw [decide_eq_true h, decide_eq_false (by omega)]; rfl
  · rw [decide_eq_false h, decide_eq_true (by omega)]; rfl
theorem gtN (c n : Nat) : ltI (Int.ofNat c) (Int.ofNat n) = !decide (n ≤ c) := by
  rw [ltN]
  by_cases h : n ≤ c
  · rw [decide_eq_true h, decide_eq_false (by omega)]; rfl
  · rw [decide_eq_false h, decide_eq_true (by omega)]; rfl
theorem neN (m n : Nat) : neI (Int.ofNat m) (Int.ofNat n) = !decide (m = n) := by
  unfold neI
  by_cases h : m = n
  · subst h; simp
  · rw [decide_eq_false h]; simp; omega
theorem impl_ValidProfile_eq {as ls ds : List Nat} (hl : ls.length < 281474976710656) (hd : ds.length < 281474976710656) : z6m as.length as ls.length ls ds.length ds = some (validProfB as ls ds) := by
  obtain ⟨p1, q1⟩ := zhj (impl_areFinite_eq hl)
  obtain ⟨p2, q2⟩ := zic (impl_areLeast_eq hd)
  unfold z6m z6l validProfB
  rw [ltN2, show ltI 24 (Int.ofNat as.length) = !decide (as.length ≤ 24) from gtN 24 _, neN, neN]
  simp only [pF_all, p1, q1, p2, q2, grd_true]
  by_cases c1 : 2 ≤ as.length
  · by_cases c2 : as.length ≤ 24
    · by_cases c3 : ls.length = as.length
      · by_cases c4 : ds.length = as.length
        · obtain ⟨g1, g2⟩ := impl_ValidProfile_loop c2
          rw [decide_eq_true c1, decide_eq_true c2, decide_eq_true c3, decide_eq_true c4, g1, g2]
          have key : (List.range as.length).all (profB as ls ds) = (ls.all finB && (ds.all leastB && (List.range as.length).all (knotB as))) := by
            rw [Bool.eq_iff_iff, Bool.and_eq_true, Bool.and_eq_true, range_all, range_all, all_getD, all_getD, c3, c4]
            constructor
            · intro h
              refine ⟨fun j hj => ?_, fun j hj => ?_, fun j hj => ?_⟩
              all_goals have := h j hj; unfold profB at this; simp only [Bool.and_eq_true] at this
              · exact this.2.1
              · exact this.2.2
              · exact this.1
            · rintro ⟨h1, h2, h3⟩ j hj
              unfold profB
              rw [h1 j hj, h2 j hj, h3 j hj]; rfl
          rw [key]
          cases ls.all finB <;> cases ds.all leastB <;> cases (List.range as.length).all (knotB as) <;> rfl
        · rw [decide_eq_false c4]
          rw [decide_eq_true c1, decide_eq_true c2, decide_eq_true c3]; rfl
      · rw [decide_eq_false c3]
        rw [decide_eq_true c1, decide_eq_true c2]; rfl
    · rw [decide_eq_false c2]
      rw [decide_eq_true c1]; rfl
  · rw [decide_eq_false c1]; rfl
theorem spec_l02Is_eq {as ls ds : List Nat} : zbi as.length as ls.length ls ds.length ds = some (validProfB as ls ds) := by
  unfold zbi zbl validProfB
  rw [ltN2, show ltI 24 (Int.ofNat as.length) = !decide (as.length ≤ 24) from gtN 24 _, neN, neN]
  by_cases c1 : 2 ≤ as.length
  · by_cases c2 : as.length ≤ 24
    · by_cases c3 : ls.length = as.length
      · by_cases c4 : ds.length = as.length
        · rw [decide_eq_true c1, decide_eq_true c2, decide_eq_true c3, decide_eq_true c4]
          rcases scan (L := z50 (Int.ofNat as.length) as ls ds as.length ls.length ds.length) (len := as.length) (profB as ls ds) (g := fun _ => ()) (e := (Int.ofNat as.length, false))
            (fun n i hi => by
              rw [zdd]; unfold z5y
              obtain ⟨p1, q1⟩ := z7m (spec_l01Finite_eq (ls.getD i 0))
              obtain ⟨p2, q2⟩ := ze2 (spec_l02Least_eq (ds.getD i 0))
              rw [ltN_t hi, okIx_t hi, ix1, addI1 (by omega), ltN0, okIx_t (show i < ls.length by omega), okIx_t (show i < ds.length by omega)]
              simp only [gF, p1, q1, p2, q2, grd_true, br_true]
              unfold profB knotB fromToB
              by_cases h0 : i = 0
              · subst h0
                cases fcmp .geq .f32 (as.getD 0 0) 3204448256 <;> cases fcmp .leq .f32 (as.getD 0 0) 1056964608 <;> cases finB (ls.getD 0 0) <;> cases leastB (ds.getD 0 0) <;> rfl
              · rw [subN1 h0 (by omega), okIx_t (show i - 1 < as.length by omega), ix1, decide_eq_false h0]
                cases fcmp .geq .f32 (as.getD i 0) 3204448256 <;> cases fcmp .leq .f32 (as.getD i 0) 1056964608 <;> cases fcmp .leq .f32 (as.getD i 0) (as.getD (i - 1) 0) <;> cases finB (ls.getD i 0) <;> cases leastB (ds.getD i 0) <;> rfl)
            (fun n => by rw [zdd]; unfold z5y; rw [ltN_f (Nat.le_refl _)]; rfl) as.length 0 big (by omega) (big_gt (by omega)) with ⟨h1, h2⟩ | ⟨j, _, h2, h3, h4⟩
          · obtain ⟨g1, g2, _⟩ := zht rfl h2
            rw [range_all.2 fun j hj => h1 j (Nat.zero_le _) hj]
            show grd (z6j (Int.ofNat as.length) as ls ds as.length ls.length ds.length (Int.ofNat 0)) (br (z64 (Int.ofNat as.length) as ls ds as.length ls.length ds.length (Int.ofNat 0)) _ _) = _
            rw [g1, g2]; rfl
          · obtain ⟨g1, g2⟩ := zhr rfl h4
            have : (List.range as.length).all (profB as ls ds) = false := by
              cases hh : (List.range as.length).all (profB as ls ds) with
              | false => rfl
              | true => rw [range_all.1 hh j h2] at h3; cases h3
            rw [this]
            show grd (z6j (Int.ofNat as.length) as ls ds as.length ls.length ds.length (Int.ofNat 0)) (br (z64 (Int.ofNat as.length) as ls ds as.length ls.length ds.length (Int.ofNat 0)) _ _) = _
            rw [g1, g2]; rfl
        · rw [decide_eq_false c4]
          rw [decide_eq_true c1, decide_eq_true c2, decide_eq_true c3]; rfl
      · rw [decide_eq_false c3]
        rw [decide_eq_true c1, decide_eq_true c2]; rfl
    · rw [decide_eq_false c2]
      rw [decide_eq_true c1]; rfl
  · rw [decide_eq_false c1]; rfl
def ringP (st : List Nat) (tip : Nat) (i s : Nat) : Bool := fcmp .gtr .f32 (st.getD (i * 3) 0) s && (fcmp .lss .f32 (st.getD (i * 3) 0) tip && (posB (st.getD (i * 3).succ 0) && finB (st.getD (i * 3).succ.succ 0)))
def ringsW (st : List Nat) (n hub tip : Nat) : Unit ⊕ Nat := walkS (ringP st tip) (fun i _ => st.getD (i * 3) 0) (fun _ _ => ()) id n 0 hub
def validRotorB (as ls ds st : List Nat) (n : Nat) (count : Int) (hub tip : Nat) : Bool :=
  validProfB as ls ds && (inB count 1 6 && (decide (2 ≤ n) && (decide (n ≤ 12) && (leastB hub && (finB tip && (ringsW st n hub tip).isRight)))))
theorem impl_ValidRotor_loop {st : List Nat} {n hub tip : Nat} (hl : n ≤ 12) : z5u n (Int.ofNat n) st tip hub 0 = true ∧ z5r n (Int.ofNat n) st tip hub 0 = !(ringsW st n hub tip).isRight := by
  have hf := walks (L := fun m i s => z3s n (Int.ofNat n) st tip m s i) (len := n) (ringP st tip) (fun i _ => st.getD (i * 3) 0) (g := fun _ _ => ()) (e := fun s => (s, Int.ofNat n, false))
    (fun m i s hi => by
      show z3s _ _ _ _ _ _ _ = if _ then z3s _ _ _ _ _ _ _ else _
      rw [zcn]; unfold z56
      obtain ⟨p1, q1⟩ := zgr (show z63 1 (pF [st.getD (i * 3).succ 0] 0 (muN 1 1)) = some (posB (st.getD (i * 3).succ 0)) by
        have := impl_arePositive_eq (xs := [st.getD (i * 3).succ 0]) (by simp)
        simpa [pF, muN] using this)
      obtain ⟨p2, q2⟩ := z8b (impl_IsFinite_eq (st.getD (i * 3).succ.succ 0))
      rw [ltN_t hi, okIx_t hi, ix3, addI1 (by omega)]
      simp only [gF, p1, q1, p2, q2, grd_true, br_true]
      unfold ringP
      cases fcmp .gtr .f32 (st.getD (i * 3) 0) s <;> cases fcmp .lss .f32 (st.getD (i * 3) 0) tip <;> cases posB (st.getD (i * 3).succ 0) <;> cases finB (st.getD (i * 3).succ.succ 0) <;> rfl)
    (fun m s => by show z3s _ _ _ _ _ _ _ = _; rw [zcn]; unfold z56; rw [ltN_f (Nat.le_refl _)]; rfl) n 0 big hub (by omega) (big_gt (by omega))
  rw [walkS_map (γ := Unit)] at hf
  have hw : ringsW st n hub tip = walkS (ringP st tip) (fun i _ => st.getD (i * 3) 0) (fun _ _ => ()) id n 0 hub := rfl
  rw [← hw] at hf
  cases hc : ringsW st n hub tip with
  | inl u => rw [hc] at hf; obtain ⟨g1, g2⟩ := zf4 rfl hf; exact ⟨g1, g2⟩
  | inr s => rw [hc] at hf; obtain ⟨g1, g2, _⟩ := zet rfl hf; exact ⟨g1, g2⟩
theorem spec_l03Is_loop {st : List Nat} {n hub tip : Nat} (hl : n ≤ 12) : z75 (Int.ofNat n) st n tip hub 0 = true ∧ z6p (Int.ofNat n) st n tip hub 0 = !(ringsW st n hub tip).isRight := by
  have hf := walks (L := fun m i s => z4c (Int.ofNat n) st n tip m s i) (len := n) (ringP st tip) (fun i _ => st.getD (i * 3) 0) (g := fun _ _ => ()) (e := fun s => (s, Int.ofNat n, false))
    (fun m i s hi => by
      show z4c _ _ _ _ _ _ _ = if _ then z4c _ _ _ _ _ _ _ else _
      rw [zd9]; unfold z5z
      obtain ⟨p1, q1⟩ := zi4 (spec_l02Above_eq (st.getD (i * 3).succ 0))
      obtain ⟨p2, q2⟩ := z7m (spec_l01Finite_eq (st.getD (i * 3).succ.succ 0))
      rw [ltN_t hi, okIx_t hi, ix3, addI1 (by omega)]
      simp only [gF, p1, q1, p2, q2, grd_true, br_true]
      unfold ringP
      cases fcmp .gtr .f32 (st.getD (i * 3) 0) s <;> cases fcmp .lss .f32 (st.getD (i * 3) 0) tip <;> cases posB (st.getD (i * 3).succ 0) <;> cases finB (st.getD (i * 3).succ.succ 0) <;> rfl)
    (fun m s => by show z4c _ _ _ _ _ _ _ = _; rw [zd9]; unfold z5z; rw [ltN_f (Nat.le_refl _)]; rfl) n 0 big hub (by omega) (big_gt (by omega))
  rw [walkS_map (γ := Unit)] at hf
  have hw : ringsW st n hub tip = walkS (ringP st tip) (fun i _ => st.getD (i * 3) 0) (fun _ _ => ()) id n 0 hub := rfl
  rw [← hw] at hf
  cases hc : ringsW st n hub tip with
  | inl u => rw [hc] at hf; obtain ⟨g1, g2⟩ := zhv rfl hf; exact ⟨g1, g2⟩
  | inr s => rw [hc] at hf; obtain ⟨g1, g2, _⟩ := zhu rfl hf; exact ⟨g1, g2⟩
theorem impl_ValidRotor_eq {as ls ds st : List Nat} {n : Nat} {count : Int} {hub tip : Nat} (hl : ls.length < 281474976710656) (hd : ds.length < 281474976710656) :
    z7n as.length as ls.length ls ds.length ds n st count hub tip = some (validRotorB as ls ds st n count hub tip) := by
  obtain ⟨p1, q1⟩ := zg6 (impl_ValidProfile_eq (as := as) hl hd)
  obtain ⟨p2, q2⟩ := zf5 (impl_within_eq count 1 6)
  obtain ⟨p3, q3⟩ := zep (impl_isLeast_eq hub)
  obtain ⟨p4, q4⟩ := z8b (impl_IsFinite_eq tip)
  unfold z7n z7f validRotorB
  rw [ltN2, show ltI 12 (Int.ofNat n) = !decide (n ≤ 12) from gtN 12 _]
  simp only [pF_all, p1, q1, p2, q2, p3, q3, p4, q4, grd_true]
  by_cases c2 : n ≤ 12
  · obtain ⟨g1, g2⟩ := impl_ValidRotor_loop (st := st) (hub := hub) (tip := tip) c2
    rw [g1, g2, decide_eq_true c2]
    cases validProfB as ls ds <;> cases inB count 1 6 <;> cases decide (2 ≤ n) <;> cases leastB hub <;> cases finB tip <;> cases (ringsW st n hub tip).isRight <;> rfl
  · rw [decide_eq_false c2]
    cases validProfB as ls ds <;> cases inB count 1 6 <;> cases decide (2 ≤ n) <;> rfl
theorem spec_l03Is_eq {as ls ds st : List Nat} {n : Nat} {count : Int} {hub tip : Nat} :
    zbm as.length as ls.length ls ds.length ds n st count hub tip = some (validRotorB as ls ds st n count hub tip) := by
  obtain ⟨p1, q1⟩ := zj4 (spec_l02Is_eq (as := as) (ls := ls) (ds := ds))
  obtain ⟨p2, q2⟩ := zgk (spec_l00In_eq count 1 6)
  obtain ⟨p3, q3⟩ := ze2 (spec_l02Least_eq hub)
  obtain ⟨p4, q4⟩ := z7m (spec_l01Finite_eq tip)
  unfold zbm zbt validRotorB
  rw [ltN2, show ltI 12 (Int.ofNat n) = !decide (n ≤ 12) from gtN 12 _]
  simp only [pF_all, p1, q1, p2, q2, p3, q3, p4, q4, grd_true]
  by_cases c2 : n ≤ 12
  · obtain ⟨g1, g2⟩ := spec_l03Is_loop (st := st) (hub := hub) (tip := tip) c2
    rw [g1, g2, decide_eq_true c2]
    cases validProfB as ls ds <;> cases inB count 1 6 <;> cases decide (2 ≤ n) <;> cases leastB hub <;> cases finB tip <;> cases (ringsW st n hub tip).isRight <;> rfl
  · rw [decide_eq_false c2]
    cases validProfB as ls ds <;> cases inB count 1 6 <;> cases decide (2 ≤ n) <;> rfl
theorem spec_l03Number_eq (x : Nat) : z6q x = some (checkV x, finB x) := by
  obtain ⟨h1, h2⟩ := z7m (spec_l01Finite_eq x)
  unfold z6q z8c checkV
  rw [h1, h2]
  cases finB x <;> rfl
def solid (st : List Nat) (count : Int) (i : Int) : Nat := fop .quo .f32 (fop .mul .f32 (fOI .f32 count) (gF st (Nat.succ (ixO 0 i 3)))) (fop .mul .f32 1086918619 (gF st (ixO 0 i 3)))
def stationB (n : Nat) (i : Int) : Bool := inB i 0 (subI .i64 (Int.ofNat n) 1)
def solidR (v : Bool) (n : Nat) (st : List Nat) (count i : Int) : Nat × Bool := if v = true then (if stationB n i = true then (checkV (solid st count i), finB (solid st count i)) else (0, false)) else (0, false)
theorem station_ix {n : Nat} {i : Int} (h : stationB n i = true) (hn : n ≤ 1099511627776) : okIx i n = true := by
  have h1 := inB_le h
  have : subI .i64 (Int.ofNat n) 1 = (n : Int) - 1 := wrap64 (by simp; omega) (by simp; omega)
  rw [this] at h1
  exact decide_eq_true ⟨h1.1, by omega⟩
theorem impl_Rotor_isStation_eq {as ls ds st : List Nat} {n : Nat} {count : Int} {hub tip : Nat} (i : Int) : z5x as.length as ls.length ls ds.length ds n st count hub tip i = some (stationB n i) := by
  obtain ⟨p, q⟩ := zf5 (impl_within_eq i 0 (subI .i64 (Int.ofNat n) 1))
  unfold z5x z5w
  rw [p, q]; rfl
theorem impl_SolidityAt_eq {as ls ds st : List Nat} {n : Nat} {count : Int} {hub tip : Nat} (i : Int) (z : st.length = n * 3) (hl : ls.length < 281474976710656) (hd : ds.length < 281474976710656) :
    z6c as.length as ls.length ls ds.length ds n st count hub tip i = some (solidR (validRotorB as ls ds st n count hub tip) n st count i) := by
  have hst : pF st 0 (muN n 3) = st := pF_all3 z
  obtain ⟨p1, q1⟩ := zgy (impl_ValidRotor_eq (as := as) (st := st) (n := n) (count := count) (hub := hub) (tip := tip) hl hd)
  obtain ⟨p2, q2⟩ := zej (impl_Rotor_isStation_eq (as := as) (ls := ls) (ds := ds) (st := st) (n := n) (count := count) (hub := hub) (tip := tip) i)
  obtain ⟨p3, q3, r3⟩ := ziu (impl_checked_eq (solid st count i))
  unfold z6c z7i solidR
  simp only [pF_all, hst, p1, q1, p2, q2, grd_true]
  cases hv : validRotorB as ls ds st n count hub tip
  · rfl
  · cases hi : stationB n i
    · rfl
    · have hn : n ≤ 12 := by
        unfold validRotorB at hv
        simp only [Bool.and_eq_true, decide_eq_true_eq] at hv
        exact hv.2.2.2.1
      obtain ⟨p4, q4⟩ := zez (show z61 as.length as ls.length ls ds.length ds n st count hub tip i = some (solid st count i) by
        unfold z61 z60
        rw [station_ix hi (by omega)]; rfl)
      simp only [p4, q4, p3, q3, r3, grd_true, br_false, bnot_true, if_true]
theorem spec_SolidityAt_eq {as ls ds st : List Nat} {n : Nat} {count : Int} {hub tip : Nat} (i : Int) (z : st.length = n * 3) :
    z6g as.length as ls.length ls ds.length ds n st count hub tip i = some (solidR (validRotorB as ls ds st n count hub tip) n st count i) := by
  have hst : pF st 0 (muN n 3) = st := pF_all3 z
  obtain ⟨p1, q1⟩ := zj3 (spec_l03Is_eq (as := as) (ls := ls) (ds := ds) (st := st) (n := n) (count := count) (hub := hub) (tip := tip))
  obtain ⟨p2, q2⟩ := zgk (spec_l00In_eq i 0 (subI .i64 (Int.ofNat n) 1))
  obtain ⟨p5, q5⟩ := zh4 (show z7j as.length as ls.length ls ds.length ds n st count hub tip i = some (validRotorB as ls ds st n count hub tip && stationB n i) by
    unfold z7j z7p
    simp only [pF_all, hst, p1, q1, p2, q2, grd_true]
    cases validRotorB as ls ds st n count hub tip <;> rfl)
  obtain ⟨p3, q3, r3⟩ := zhs (spec_l03Number_eq (solid st count i))
  unfold z6g z7h solidR
  simp only [pF_all, hst, p5, q5, grd_true]
  cases hv : validRotorB as ls ds st n count hub tip
  · rfl
  · cases hi : stationB n i
    · rfl
    · have hn : n ≤ 12 := by
        unfold validRotorB at hv
        simp only [Bool.and_eq_true, decide_eq_true_eq] at hv
        exact hv.2.2.2.1
      obtain ⟨p4, q4⟩ := zgu (show z6v as.length as ls.length ls ds.length ds n st count hub tip i = some (solid st count i) by
        unfold z6v z6z
        rw [station_ix hi (by omega)]; rfl)
      simp only [p4, q4, p3, q3, r3, grd_true, br_false, bnot_true, if_true, Bool.and_self]
theorem plain_FnExactSolidityAt {as ls ds st : List Nat} {n : Nat} {count : Int} {hub tip : Nat} {i : Int} (ka : ∀ x ∈ as, canW .f32 x) (ma : as.length ≤ maxLen) (kl : ∀ x ∈ ls, canW .f32 x) (ml : ls.length ≤ maxLen) (kd : ∀ x ∈ ds, canW .f32 x) (md : ds.length ≤ maxLen)
    (z : st.length = n * 3) (ks : ∀ x ∈ st, canW .f32 x) (mn : n ≤ maxLen) (kc : bdI .i64 count) (kh : canW .f32 hub) (kt : canW .f32 tip) (ki : bdI .i64 i) : z5q as.length as ls.length ls ds.length ds n st count hub tip i = some true := by
  obtain ⟨r, p1, q1, _, h⟩ := rotor_law (count := count) (hub := hub) (tip := tip) ma ml md z mn (left := 1048576) (by decide) (by decide)
  have hst : pF st 0 (muN n 3) = st := pF_all3 z
  unfold z5q z5s
  simp only [pF_all, hst, p1, q1, grd_true]
  rcases h with h | ⟨e, l, t0, t1, t2, t3, t4, t5, t6, t7, t8, e0, e1⟩
  · rw [ltI_t h]; rfl
  · obtain ⟨p2, q2, r2⟩ := zh6 (impl_SolidityAt_eq (as := as) (ls := ls) (ds := ds) (st := st) (n := n) (count := count) (hub := hub) (tip := tip) i z (by omega) (by omega))
    obtain ⟨p3, q3, r3⟩ := zh2 (spec_SolidityAt_eq (as := as) (ls := ls) (ds := ds) (st := st) (n := n) (count := count) (hub := hub) (tip := tip) i z)
    obtain ⟨p6, q6⟩ := z6d (laws_sameFloat_refl (fcvV .f32 .f64 (solidR (validRotorB as ls ds st n count hub tip) n st count i).1))
    simp only [e, t0, t1, t2, t3, t4, t5, t6, t7, t8, e0, e1, pF_all, hst, p2, q2, r2, p3, q3, r3, p6, q6, grd_true, br_false, bnot_true, beqB_self]
end Go.Rf
