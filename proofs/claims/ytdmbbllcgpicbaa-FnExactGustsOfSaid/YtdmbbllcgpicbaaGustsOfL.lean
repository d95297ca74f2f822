/-
  Plain laws.
-/
import Derived.Test.YtdmbbllcgpicbaaGustsOfP
set_option linter.unusedVariables false
set_option linter.unusedSimpArgs false
set_option maxRecDepth 100000
set_option maxHeartbeats 4000000
namespace Go.Rf
open Go
def finB (x : Nat) : Bool := fcmp .eql .f32 (fop .sub .f32 x x) 0
def leastB (x : Nat) : Bool := finB x && fcmp .geq .f32 x 0
def posB (x : Nat) : Bool := finB x && fcmp .gtr .f32 x 0
theorem floatBits_nan {op : BinOp} {k : FloatKind} {x y : Nat} (h : nanB k x = true ∨ nanB k y = true) : floatBits op k x y = none := by
  unfold floatBits
  rcases h with h | h
  · obtain ⟨s, f, e⟩ := nan_form h
    cases op <;> simp only [Ieee.Format.add, Ieee.Format.sub, Ieee.Format.mul, Ieee.Format.div, e, sum_nan_left, product_nan_left, quotient_nan_left, Option.map_none]
  · obtain ⟨s, f, e⟩ := nan_form h
    cases op <;> simp only [Ieee.Format.add, Ieee.Format.sub, Ieee.Format.mul, Ieee.Format.div, e, sum_nan_right, product_nan_right, quotient_nan_right, Option.map_none, Ieee.Datum.opposite]
theorem fop_nan {op : BinOp} {k : FloatKind} {x y : Nat} (h : nanB k x = true ∨ nanB k y = true) : fop op k x y = qn k := by
  unfold fop
  rw [floatBits_nan h]; rfl
theorem fin_num {x : Nat} (h : finB x = true) : nanB .f32 x = false := by
  cases hn : nanB .f32 x with
  | false => rfl
  | true =>
    unfold finB at h
    rw [fop_nan (.inl hn), (fcmp_nan .f32 (.inl (nanB_qn .f32))).1] at h
    cases h
theorem nan_zero : nanB .f32 0 = false := by decide +kernel
theorem leq_not_gtr {x y : Nat} (hx : nanB .f32 x = false) (hy : nanB .f32 y = false) : fcmp .leq .f32 x y = !fcmp .gtr .f32 x y := by
  obtain ⟨_, _, _, h4, h5, _⟩ := fcmp_num .f32 hx hy
  rw [h4, h5]
  by_cases h : srung FloatKind.f32.format x ≤ srung FloatKind.f32.format y
  · rw [decide_eq_true h, decide_eq_false (by omega)]; rfl
  · rw [decide_eq_false h, decide_eq_true (by omega)]; rfl
theorem impl_IsFinite_eq (x : Nat) : F_impl_IsFinite x = some (finB x) := rfl
theorem spec_l01Finite_eq (x : Nat) : F_spec_l01Finite x = some (finB x) := rfl
theorem impl_isLeast_eq (x : Nat) : F_impl_isLeast x = some (leastB x) := by
  obtain ⟨h1, h2⟩ := impl_IsFinite_of (impl_IsFinite_eq x)
  unfold F_impl_isLeast T_impl_isLeast leastB
  rw [h1, h2]
  cases finB x <;> rfl
theorem spec_l02Least_eq (x : Nat) : F_spec_l02Least x = some (leastB x) := by
  obtain ⟨h1, h2⟩ := spec_l01Finite_of (spec_l01Finite_eq x)
  unfold F_spec_l02Least T_spec_l02Least leastB
  rw [h1, h2]
  cases finB x <;> rfl
theorem spec_l02Above_eq (x : Nat) : F_spec_l02Above x = some (posB x) := by
  obtain ⟨h1, h2⟩ := spec_l01Finite_of (spec_l01Finite_eq x)
  unfold F_spec_l02Above T_spec_l02Above posB
  rw [h1, h2]
  cases finB x <;> rfl
theorem impl_arePositive_1_eq (x : Nat) : F_impl_arePositive_1 x = some (!posB x) := by
  obtain ⟨h1, h2⟩ := impl_IsFinite_of (impl_IsFinite_eq x)
  unfold F_impl_arePositive_1 T_impl_arePositive_1 posB
  rw [h1, h2]
  cases hf : finB x with
  | false => rfl
  | true => simp only [br_if, grd_true, bnot, Bool.not_true, leq_not_gtr (fin_num hf) nan_zero]; simp
def checkV (x : Nat) : Nat := if finB x then x else 0
theorem impl_checked_eq (x : Nat) : F_impl_checked x = some (checkV x, finB x) := by
  obtain ⟨h1, h2⟩ := impl_IsFinite_of (impl_IsFinite_eq x)
  unfold F_impl_checked T_impl_checked checkV
  rw [h1, h2]
  cases finB x <;> rfl
theorem laws_sameFloat_refl (x : Nat) : F_laws_sameFloat x x = some true := by
  unfold F_laws_sameFloat T_laws_sameFloat
  simp only [neq_self]
  cases hn : nanB .f64 x with
  | true => rfl
  | false =>
    have he : fcmp .eql .f64 x x = true := by rw [(fcmp_num .f64 hn hn).1]; simp
    simp only [br_if, Bool.false_eq_true, if_false, he, beqB, BEq.rfl]
    split <;> rfl
theorem slices_IndexFunc_arePositive {xs : List Nat} (hl : xs.length < 281474976710656) : ∃ r : Int, F_slices_IndexFunc_sf32_f32_arePositive_1 xs.length xs = some r ∧ leI 0 r = !xs.all posB := by
  unfold F_slices_IndexFunc_sf32_f32_arePositive_1 T_slices_IndexFunc_sf32_f32_arePositive_1
  rcases scan_all (L := L_slices_IndexFunc_sf32_f32_arePositive_1_l2 xs.length (Int.ofNat xs.length) xs) xs posB (g := fun i => Int.ofNat i) (e := (Int.ofNat xs.length, false))
    (fun n i hi => by
      rw [L_slices_IndexFunc_sf32_f32_arePositive_1_l2_succ]; unfold T_slices_IndexFunc_sf32_f32_arePositive_1_l2; rw [ltN_t hi, okIx_t hi, ix1, addI1 (by omega)]
      simp only [gF]
      generalize xs.getD i 0 = x
      obtain ⟨h1, h2⟩ := impl_arePositive_1_of (impl_arePositive_1_eq x)
      simp only [br_if, grd_true, h1, h2]
      rcases Bool.eq_false_or_eq_true (posB x) with h | h <;> simp [h])
    (fun n => by rw [L_slices_IndexFunc_sf32_f32_arePositive_1_l2_succ]; unfold T_slices_IndexFunc_sf32_f32_arePositive_1_l2; rw [ltN_f (Nat.le_refl _)]; rfl) hl with ⟨h1, h2⟩ | ⟨j, h2, h3, h4⟩
  · obtain ⟨g1, g2, _⟩ := slices_IndexFunc_sf32_f32_arePositive_1_l2_of1 rfl h2
    exact ⟨Int.negSucc 0, by rw [g1, g2]; rfl, by rw [h1]; rfl⟩
  · obtain ⟨g1, g2, g3⟩ := slices_IndexFunc_sf32_f32_arePositive_1_l2_of0 rfl h4
    exact ⟨Int.ofNat j, by rw [g1, g2, g3]; rfl, by rw [h3]; exact decide_eq_true (by simp)⟩
theorem slices_ContainsFunc_arePositive {xs : List Nat} (hl : xs.length < 281474976710656) : F_slices_ContainsFunc_sf32_f32_arePositive_1 xs.length xs = some (!xs.all posB) := by
  obtain ⟨r, h1, h2⟩ := slices_IndexFunc_arePositive hl
  obtain ⟨g1, g2⟩ := slices_IndexFunc_sf32_f32_arePositive_1_of h1
  unfold F_slices_ContainsFunc_sf32_f32_arePositive_1 T_slices_ContainsFunc_sf32_f32_arePositive_1
  rw [pF_all, g1, g2, h2]; rfl
theorem impl_arePositive_eq {xs : List Nat} (hl : xs.length < 281474976710656) : F_impl_arePositive xs.length xs = some (xs.all posB) := by
  obtain ⟨g1, g2⟩ := slices_ContainsFunc_sf32_f32_arePositive_1_of (slices_ContainsFunc_arePositive hl)
  unfold F_impl_arePositive T_impl_arePositive
  rw [pF_all, g1, g2]
  simp [grd_true, bnot]
theorem impl_arePositive_two (x y : Nat) : F_impl_arePositive 2 (pF [x, y] 0 (muN 2 1)) = some (posB x && posB y) := by
  have := impl_arePositive_eq (xs := [x, y]) (by simp)
  simpa [pF, muN] using this
def fromToB (x low high : Nat) : Bool := fcmp .geq .f32 x low && fcmp .leq .f32 x high
theorem impl_isFromTo_eq (x low high : Nat) : F_impl_isFromTo x low high = some (fromToB x low high) := by
  unfold F_impl_isFromTo T_impl_isFromTo fromToB
  rcases Bool.eq_false_or_eq_true (fcmp .geq .f32 x low) with h | h <;> simp [h, br_if]
theorem spec_l04Share_eq (x : Nat) : F_spec_l04Share x = some (fromToB x 0 1065353216) := by
  unfold F_spec_l04Share T_spec_l04Share fromToB
  rcases Bool.eq_false_or_eq_true (fcmp .geq .f32 x 0) with h | h <;> simp [h, br_if]
theorem laws_eqFloat32S_refl {xs : List Nat} (hl : xs.length < 281474976710656) : F_laws_eqFloat32S xs.length xs xs.length xs = some true := by
  have hn : neI (Int.ofNat xs.length) (Int.ofNat xs.length) = false := by simp [neI]
  unfold F_laws_eqFloat32S T_laws_eqFloat32S
  rw [hn]
  rcases scan_all (L := L_laws_eqFloat32S_l4 xs.length xs.length xs xs) xs (fun _ => true) (g := fun i => ()) (e := (Int.ofNat xs.length, false))
    (fun n i hi => by
      obtain ⟨h1, h2⟩ := laws_sameFloat_of (laws_sameFloat_refl (fcvV FloatKind.f32 FloatKind.f64 (gF xs i)))
      rw [L_laws_eqFloat32S_l4_succ]; unfold T_laws_eqFloat32S_l4; rw [ltN_t hi, okIx_t hi, ix1, addI1 (by omega), h1, h2]
      rfl)
    (fun n => by rw [L_laws_eqFloat32S_l4_succ]; unfold T_laws_eqFloat32S_l4; rw [ltN_f (Nat.le_refl _)]; rfl) hl with ⟨h1, h2⟩ | ⟨j, h2, h3, h4⟩
  · obtain ⟨g1, g2, _⟩ := laws_eqFloat32S_l4_of1 rfl h2
    rw [g1, g2]; rfl
  · simp at h3
theorem same4 (p q r s : Bool) : br p (br q (br r (some s) (some false)) (some false)) (some false) = some (p && (q && (r && s))) := by cases p <;> cases q <;> cases r <;> rfl
theorem laws_toAir_p_eq (a b c d : Nat) : laws_toAir_p a b c d = true := rfl
def validAirB (d h s r : Nat) : Bool := posB d && (posB h && (leastB s && fromToB r 0 1065353216))
theorem impl_ValidAir_eq (d h s r : Nat) : F_impl_ValidAir d h s r = some (validAirB d h s r) := by
  obtain ⟨p1, q1⟩ := impl_arePositive_of (impl_arePositive_two d h)
  obtain ⟨p2, q2⟩ := impl_isLeast_of (impl_isLeast_eq s)
  obtain ⟨p3, q3⟩ := impl_isFromTo_of (impl_isFromTo_eq r 0 1065353216)
  unfold F_impl_ValidAir T_impl_ValidAir validAirB
  simp only [p1, p2, p3, q1, q2, q3, grd_true]
  cases posB d <;> cases posB h <;> cases leastB s <;> rfl
theorem spec_l04Is_eq (d h s r : Nat) : F_spec_l04Is d h s r = some (validAirB d h s r) := by
  obtain ⟨p1, q1⟩ := spec_l02Above_of (spec_l02Above_eq d)
  obtain ⟨p2, q2⟩ := spec_l02Above_of (spec_l02Above_eq h)
  obtain ⟨p3, q3⟩ := spec_l02Least_of (spec_l02Least_eq s)
  obtain ⟨p4, q4⟩ := spec_l04Share_of (spec_l04Share_eq r)
  unfold F_spec_l04Is T_spec_l04Is validAirB
  simp only [p1, p2, p3, p4, q1, q2, q3, q4, grd_true]
  exact same4 _ _ _ _
noncomputable def speedAt (d h s r z : Nat) : Nat := spec_l04Speed_v0 d h s r z
theorem speedAt_eq (d h s r z : Nat) : speedAt d h s r z = fop .mul .f32 s (fop .add .f32 1065353216 (fop .mul .f32 r (fop .quo .f32 (fop .sub .f32 z h) (fop .add .f32 z h)))) := rfl
theorem spec_l04Speed_p_eq (d h s r z : Nat) : spec_l04Speed_p d h s r z = true := rfl
noncomputable def speedR (d h s r z : Nat) : Nat × Bool := if (validAirB d h s r && leastB z) = true then (checkV (speedAt d h s r z), finB (speedAt d h s r z)) else (0, false)
theorem impl_SpeedAtHeight_eq (d h s r z : Nat) : F_impl_SpeedAtHeight d h s r z = some (speedR d h s r z) := by
  obtain ⟨p1, q1⟩ := impl_ValidAir_of (impl_ValidAir_eq d h s r)
  obtain ⟨p2, q2⟩ := impl_isLeast_of (impl_isLeast_eq z)
  obtain ⟨p4, q4, q5⟩ := impl_checked_of (impl_checked_eq (speedAt d h s r z))
  unfold F_impl_SpeedAtHeight T_impl_SpeedAtHeight speedR
  rw [speedAt_eq] at p4 q4 q5 ⊢
  simp only [p1, p2, p4, q1, q2, q4, q5, grd_true, bnot]
  cases validAirB d h s r <;> cases leastB z <;> rfl
theorem beqB_self (b : Bool) : beqB b b = true := by cases b <;> rfl
theorem neI_self (i : Int) : neI i i = false := by simp [neI]
theorem bnot_true : bnot true = false := rfl
def inB (n low high : Int) : Bool := decide (low ≤ n) && decide (n ≤ high)
theorem spec_l00In_eq (n low high : Int) : F_spec_l00In n low high = some (inB n low high) := by
  unfold F_spec_l00In T_spec_l00In inB leI
  cases decide (low ≤ n) <;> rfl
theorem impl_within_eq (n low high : Int) : F_impl_within n low high = some (inB n low high) := by
  unfold F_impl_within T_impl_within inB leI
  cases decide (low ≤ n) <;> rfl
theorem inB_le {n l h : Int} (e : inB n l h = true) : l ≤ n ∧ n ≤ h := by
  unfold inB at e
  rw [Bool.and_eq_true] at e
  exact ⟨of_decide_eq_true e.1, of_decide_eq_true e.2⟩
def marks (k0 : Int) (n : Nat) : List Nat := (List.range n).map fun (j : Nat) => fOI .f32 (k0 + (j : Int))
theorem marks_length (k0 : Int) (n : Nat) : (marks k0 n).length = n := by simp [marks]
theorem marks_get {k0 : Int} {n i : Nat} (h : i < n) : (marks k0 n).getD i 0 = fOI .f32 (k0 + (i : Int)) := by
  simp [marks, List.getD_eq_getElem?_getD, h]
theorem fOI_nan (k : FloatKind) (n : Int) : nanB k (fOI k n) = false := by
  rw [show fOI k n = floatOfInt k n from rfl, fOI_eq]
  exact nanB_word k _ (rnd_inf _ _ _)
theorem addI_in {a b : Int} (h1 : -9223372036854775808 ≤ a + b) (h2 : a + b ≤ 9223372036854775807) : addI .i64 a b = a + b := wrap64 h1 h2
theorem mark_loop {L : Nat → Int → Int → List Nat → Option (Int × Int × Bool × List Nat)} {len : Nat} {k0 : Int} {ys : List Nat} (hy : ys.length = len) (hk : 0 ≤ k0) (hk2 : k0 ≤ 1099511627776) (hl : len < 281474976710656)
    (hs : ∀ n k i b, L (n + 1) k i b = br (ltI i (Int.ofNat len)) (grd (okIx i len) (L n (addI .i64 k 1) (addI .i64 i 1) (sF b (ixO 0 i 1) (fOI .f32 k)))) (some (k, i, ltI i (Int.ofNat len), b))) :
    L big k0 0 ys = some (k0 + (len : Int), Int.ofNat len, false, marks k0 len) := by
  have hf := folds (L := fun n i s => L n (k0 + i) i s) (len := len) (fun i s => s.set i ((marks k0 len).getD i 0)) (e := fun s => (k0 + (len : Int), Int.ofNat len, false, s))
    (fun n i s hi => by
      show L _ _ _ _ = L _ _ _ _
      rw [hs, ltN_t hi, okIx_t hi, ix1, addI1 (by omega), addI_in (by simp; omega) (by simp; omega), marks_get hi]
      have : k0 + Int.ofNat i + 1 = k0 + Int.ofNat (i + 1) := by simp; omega
      rw [this]; rfl)
    (fun n s => by show L _ _ _ _ = _; rw [hs, ltN_f (Nat.le_refl _)]; rfl) len 0 big ys (by omega) (big_gt hl)
  have hm := copy_fold (marks k0 len) len 0 ys (by simp [marks_length]) (by rw [marks_length, hy])
  rw [hm] at hf
  simpa using hf
theorem laws_heldFloat32S_eq {k0 : Int} {n : Nat} (hk : 0 ≤ k0) (hk2 : k0 ≤ 1099511627776) (hl : n < 281474976710656) : F_laws_heldFloat32S n (marks k0 n) k0 = some (k0 + (n : Int)) := by
  unfold F_laws_heldFloat32S T_laws_heldFloat32S
  rcases scan (L := fun m i => L_laws_heldFloat32S_l2 n (marks k0 n) m (k0 + i) i) (len := n) (fun _ => true) (g := fun _ => ()) (e := (k0 + (n : Int), Int.ofNat n, false))
    (fun m i hi => by
      show L_laws_heldFloat32S_l2 _ _ _ _ _ = _
      rw [L_laws_heldFloat32S_l2_succ]; unfold T_laws_heldFloat32S_l2
      rw [ltN_t hi, okIx_t hi, ix1, addI1 (by omega), addI_in (by simp; omega) (by simp; omega)]
      have e : fcmp .neq .f32 (gF (marks k0 n) i) (fOI .f32 (k0 + Int.ofNat i)) = false := by
        show fcmp .neq .f32 ((marks k0 n).getD i 0) _ = false
        rw [marks_get hi]
        show fcmp .neq .f32 (fOI .f32 (k0 + Int.ofNat i)) (fOI .f32 (k0 + Int.ofNat i)) = false
        rw [neq_self, fOI_nan]
      have : k0 + Int.ofNat i + 1 = k0 + Int.ofNat (i + 1) := by simp; omega
      rw [e, this]; rfl)
    (fun m => by show L_laws_heldFloat32S_l2 _ _ _ _ _ = _; rw [L_laws_heldFloat32S_l2_succ]; unfold T_laws_heldFloat32S_l2; rw [ltN_f (Nat.le_refl _)]; rfl) n 0 big (by omega) (big_gt hl) with ⟨k1, k2⟩ | ⟨j, k1, k2, k3, k4⟩
  · have k2 : L_laws_heldFloat32S_l2 n (marks k0 n) big k0 0 = some (Sum.inr (k0 + (n : Int), Int.ofNat n, false)) := by simpa using k2
    obtain ⟨g1, g2, g3, _⟩ := laws_heldFloat32S_l2_of1 rfl k2
    rw [g1, g2, g3]; rfl
  · cases k3
theorem okA2_1 {n : Nat} {b : List Nat} (x : Nat) (hb : b.length = n) (hn : n < 1099511627776) : okA2 n 1 4 (nF (pF [x] 0 (muN 1 1))) (nF b) 1 = true :=
  decide_eq_true ⟨by omega, by omega, by simp [nF, pF, muN], by simp [nF, hb]⟩
theorem runs {ρ : Type} {L : Nat → Int → Option ρ} {len : Nat} {e : ρ} (hs : ∀ n i, i < len → L (n + 1) (Int.ofNat i) = L n (Int.ofNat (i + 1))) (he : ∀ n, L (n + 1) (Int.ofNat len) = some e) (hl : len < 281474976710656) : L big 0 = some e := by
  have := folds (L := fun n i (_ : Unit) => L n i) (len := len) (fun _ _ => ()) (e := fun _ => e) (fun n i _ hi => hs n i hi) (fun n _ => he n) len 0 big () (by omega) (big_gt hl)
  exact this
theorem impl_areFinite_1_eq (x : Nat) : F_impl_areFinite_1 x = some (!finB x) := by
  obtain ⟨h1, h2⟩ := impl_IsFinite_of (impl_IsFinite_eq x)
  unfold F_impl_areFinite_1 T_impl_areFinite_1
  rw [h1, h2]; rfl
theorem slices_IndexFunc_areFinite {xs : List Nat} (hl : xs.length < 281474976710656) : ∃ r : Int, F_slices_IndexFunc_sf32_f32_areFinite_1 xs.length xs = some r ∧ leI 0 r = !xs.all finB := by
  unfold F_slices_IndexFunc_sf32_f32_areFinite_1 T_slices_IndexFunc_sf32_f32_areFinite_1
  rcases scan_all (L := L_slices_IndexFunc_sf32_f32_areFinite_1_l2 xs.length (Int.ofNat xs.length) xs) xs finB (g := fun i => Int.ofNat i) (e := (Int.ofNat xs.length, false))
    (fun n i hi => by
      rw [L_slices_IndexFunc_sf32_f32_areFinite_1_l2_succ]; unfold T_slices_IndexFunc_sf32_f32_areFinite_1_l2; rw [ltN_t hi, okIx_t hi, ix1, addI1 (by omega)]
      simp only [gF]
      generalize xs.getD i 0 = x
      obtain ⟨h1, h2⟩ := impl_areFinite_1_of (impl_areFinite_1_eq x)
      simp only [br_if, grd_true, h1, h2]
      rcases Bool.eq_false_or_eq_true (finB x) with h | h <;> simp [h])
    (fun n => by rw [L_slices_IndexFunc_sf32_f32_areFinite_1_l2_succ]; unfold T_slices_IndexFunc_sf32_f32_areFinite_1_l2; rw [ltN_f (Nat.le_refl _)]; rfl) hl with ⟨h1, h2⟩ | ⟨j, h2, h3, h4⟩
  · obtain ⟨g1, g2, _⟩ := slices_IndexFunc_sf32_f32_areFinite_1_l2_of1 rfl h2
    exact ⟨Int.negSucc 0, by rw [g1, g2]; rfl, by rw [h1]; rfl⟩
  · obtain ⟨g1, g2, g3⟩ := slices_IndexFunc_sf32_f32_areFinite_1_l2_of0 rfl h4
    exact ⟨Int.ofNat j, by rw [g1, g2, g3]; rfl, by rw [h3]; exact decide_eq_true (by simp)⟩
theorem slices_ContainsFunc_areFinite {xs : List Nat} (hl : xs.length < 281474976710656) : F_slices_ContainsFunc_sf32_f32_areFinite_1 xs.length xs = some (!xs.all finB) := by
  obtain ⟨r, h1, h2⟩ := slices_IndexFunc_areFinite hl
  obtain ⟨g1, g2⟩ := slices_IndexFunc_sf32_f32_areFinite_1_of h1
  unfold F_slices_ContainsFunc_sf32_f32_areFinite_1 T_slices_ContainsFunc_sf32_f32_areFinite_1
  rw [pF_all, g1, g2, h2]; rfl
theorem impl_areFinite_eq {xs : List Nat} (hl : xs.length < 281474976710656) : F_impl_areFinite xs.length xs = some (xs.all finB) := by
  obtain ⟨g1, g2⟩ := slices_ContainsFunc_sf32_f32_areFinite_1_of (slices_ContainsFunc_areFinite hl)
  unfold F_impl_areFinite T_impl_areFinite
  rw [pF_all, g1, g2]
  simp [grd_true, bnot]
def gustN (seed : Int) : Int := remI (addI .i64 (mulI .i64 1103515245 seed) 12345) 2147483648
def gustG (x3 x4 : Nat) (seed : Int) (g : Nat) : Nat := fop .add .f32 (fop .mul .f32 x4 g) (fop .mul .f32 x3 (fop .quo .f32 (fOI .f32 (subI .i64 (quoI .i64 (gustN seed) 65536) 16384)) 1182793728))
def gustU (sp g : Nat) : Nat := fop .mul .f32 sp (fop .add .f32 1065353216 g)
def gustV (sp g : Nat) : Nat := if fcmp .gtr .f32 (gustU sp g) 0 = true then gustU sp g else 0
def gustS (x3 x4 sp : Nat) (x5 : Int) : Nat → Int × Nat × List Nat
  | 0 => (x5, 0, [])
  | i + 1 => (gustN (gustS x3 x4 sp x5 i).1, gustG x3 x4 (gustS x3 x4 sp x5 i).1 (gustS x3 x4 sp x5 i).2.1, (gustS x3 x4 sp x5 i).2.2 ++ [gustV sp (gustG x3 x4 (gustS x3 x4 sp x5 i).1 (gustS x3 x4 sp x5 i).2.1)])
def gustAt (x3 x4 sp : Nat) (x5 : Int) (i : Nat) : Nat := gustV sp (gustG x3 x4 (gustS x3 x4 sp x5 i).1 (gustS x3 x4 sp x5 i).2.1)
theorem gustS_list (x3 x4 sp : Nat) (x5 : Int) : ∀ n, (gustS x3 x4 sp x5 n).2.2 = (List.range n).map (gustAt x3 x4 sp x5)
  | 0 => rfl
  | n + 1 => by
    rw [List.range_succ, List.map_append, ← gustS_list x3 x4 sp x5 n]
    rfl
theorem gustS_length (x3 x4 sp : Nat) (x5 : Int) (n : Nat) : (gustS x3 x4 sp x5 n).2.2.length = n := by rw [gustS_list]; simp
theorem impl_Gusts_loop {x3 x4 sp : Nat} {x5 : Int} {n : Nat} (hn : n ≤ 256) :
    L_impl_GustsOf_l6 x3 x4 sp (Int.ofNat n) big x5 0 0 0 [] = some ((gustS x3 x4 sp x5 n).1, n, (gustS x3 x4 sp x5 n).2.1, Int.ofNat n, false, (gustS x3 x4 sp x5 n).2.2) := by
  have := runs (L := fun m i => L_impl_GustsOf_l6 x3 x4 sp (Int.ofNat n) m (gustS x3 x4 sp x5 i.toNat).1 i.toNat (gustS x3 x4 sp x5 i.toNat).2.1 i (gustS x3 x4 sp x5 i.toNat).2.2) (len := n) (e := ((gustS x3 x4 sp x5 n).1, n, (gustS x3 x4 sp x5 n).2.1, Int.ofNat n, false, (gustS x3 x4 sp x5 n).2.2))
    (fun m i hi => by
      show L_impl_GustsOf_l6 _ _ _ _ _ (gustS x3 x4 sp x5 i).1 i (gustS x3 x4 sp x5 i).2.1 _ (gustS x3 x4 sp x5 i).2.2 = L_impl_GustsOf_l6 _ _ _ _ _ (gustS x3 x4 sp x5 (i + 1)).1 (i + 1) (gustS x3 x4 sp x5 (i + 1)).2.1 _ (gustS x3 x4 sp x5 (i + 1)).2.2
      have hlen := gustS_length x3 x4 sp x5 i
      rw [L_impl_GustsOf_l6_succ]; unfold T_impl_GustsOf_l6
      rw [ltN_t hi, addI1 (by omega), okA2_1 _ hlen (by omega), okA2_1 _ hlen (by omega), show okNz 2147483648 = true from rfl, show okNz 65536 = true from rfl]
      have hs : gustS x3 x4 sp x5 (i + 1) = (gustN (gustS x3 x4 sp x5 i).1, gustG x3 x4 (gustS x3 x4 sp x5 i).1 (gustS x3 x4 sp x5 i).2.1, (gustS x3 x4 sp x5 i).2.2 ++ [gustV sp (gustG x3 x4 (gustS x3 x4 sp x5 i).1 (gustS x3 x4 sp x5 i).2.1)]) := rfl
      rw [hs]
      generalize gustS x3 x4 sp x5 i = S
      obtain ⟨seed, g, b⟩ := S
      show br _ (grd _ (grd _ (br (bnot (fcmp .gtr .f32 (gustU sp (gustG x3 x4 seed g)) 0)) _ _))) _ = _
      unfold gustV
      cases fcmp .gtr .f32 (gustU sp (gustG x3 x4 seed g)) 0 <;> rfl)
    (fun m => by
      show L_impl_GustsOf_l6 _ _ _ _ _ (gustS x3 x4 sp x5 n).1 n (gustS x3 x4 sp x5 n).2.1 _ (gustS x3 x4 sp x5 n).2.2 = _
      rw [L_impl_GustsOf_l6_succ]; unfold T_impl_GustsOf_l6; rw [ltN_f (Nat.le_refl _)]; rfl) (by omega)
  exact this
theorem spec_Gusts_loop {x3 x4 sp : Nat} {x5 : Int} {n : Nat} (hn : n ≤ 256) :
    ((∀ j, j < n → finB (gustAt x3 x4 sp x5 j) = true ∧ finB sp = true) ∧ L_spec_GustsOf_l7 (Int.ofNat n) x3 x4 sp big x5 0 0 0 [] = some (.inr ((gustS x3 x4 sp x5 n).1, n, (gustS x3 x4 sp x5 n).2.1, Int.ofNat n, false, (gustS x3 x4 sp x5 n).2.2))) ∨
    ((∃ j, j < n ∧ (finB (gustAt x3 x4 sp x5 j) && finB sp) = false) ∧ L_spec_GustsOf_l7 (Int.ofNat n) x3 x4 sp big x5 0 0 0 [] = some (.inl ())) := by
  rcases scan (L := fun m i => L_spec_GustsOf_l7 (Int.ofNat n) x3 x4 sp m (gustS x3 x4 sp x5 i.toNat).1 i.toNat (gustS x3 x4 sp x5 i.toNat).2.1 i (gustS x3 x4 sp x5 i.toNat).2.2) (len := n) (fun i => finB (gustAt x3 x4 sp x5 i) && finB sp) (g := fun _ => ()) (e := ((gustS x3 x4 sp x5 n).1, n, (gustS x3 x4 sp x5 n).2.1, Int.ofNat n, false, (gustS x3 x4 sp x5 n).2.2))
    (fun m i hi => by
      show L_spec_GustsOf_l7 _ _ _ _ _ (gustS x3 x4 sp x5 i).1 i (gustS x3 x4 sp x5 i).2.1 _ (gustS x3 x4 sp x5 i).2.2 = if _ then L_spec_GustsOf_l7 _ _ _ _ _ (gustS x3 x4 sp x5 (i + 1)).1 (i + 1) (gustS x3 x4 sp x5 (i + 1)).2.1 _ (gustS x3 x4 sp x5 (i + 1)).2.2 else _
      have hlen := gustS_length x3 x4 sp x5 i
      rw [L_spec_GustsOf_l7_succ]; unfold T_spec_GustsOf_l7
      rw [ltN_t hi, addI1 (by omega), okA2_1 _ hlen (by omega), okA2_1 _ hlen (by omega), show okNz 65536 = true from rfl]
      have hs : gustS x3 x4 sp x5 (i + 1) = (gustN (gustS x3 x4 sp x5 i).1, gustG x3 x4 (gustS x3 x4 sp x5 i).1 (gustS x3 x4 sp x5 i).2.1, (gustS x3 x4 sp x5 i).2.2 ++ [gustV sp (gustG x3 x4 (gustS x3 x4 sp x5 i).1 (gustS x3 x4 sp x5 i).2.1)]) := rfl
      rw [hs]
      unfold gustAt
      generalize gustS x3 x4 sp x5 i = S
      obtain ⟨seed, g, b⟩ := S
      obtain ⟨p1, q1⟩ := spec_l04Next_of (show F_spec_l04Next seed = some (gustN seed) from rfl)
      obtain ⟨p2, q2⟩ := spec_l01Finite_of (spec_l01Finite_eq 0)
      obtain ⟨p3, q3⟩ := spec_l01Finite_of (spec_l01Finite_eq sp)
      obtain ⟨p4, q4⟩ := spec_l01Finite_of (spec_l01Finite_eq (gustU sp (gustG x3 x4 seed g)))
      unfold gustU gustG at p4 q4
      simp only [p1, q1, p2, q2, p3, q3, p4, q4, grd_true, br_true]
      rw [show finB 0 = true from by decide +kernel]
      unfold gustV gustU gustG
      generalize fop .mul .f32 sp (fop .add .f32 1065353216 (fop .add .f32 (fop .mul .f32 x4 g) (fop .mul .f32 x3 (fop .quo .f32 (fOI .f32 (subI .i64 (quoI .i64 (gustN seed) 65536) 16384)) 1182793728)))) = u
      cases fcmp .gtr .f32 u 0
      · rw [show (if false = true then u else 0) = 0 from rfl, show finB 0 = true from by decide +kernel]
        cases finB sp <;> rfl
      · rw [show (if true = true then u else 0) = u from rfl]
        cases finB u <;> cases finB sp <;> rfl)
    (fun m => by
      show L_spec_GustsOf_l7 _ _ _ _ _ (gustS x3 x4 sp x5 n).1 n (gustS x3 x4 sp x5 n).2.1 _ (gustS x3 x4 sp x5 n).2.2 = _
      rw [L_spec_GustsOf_l7_succ]; unfold T_spec_GustsOf_l7; rw [ltN_f (Nat.le_refl _)]; rfl) n 0 big (by omega) (big_gt (by omega)) with ⟨k1, k2⟩ | ⟨j, k1, k2, k3, k4⟩
  · exact .inl ⟨fun j hj => by have := k1 j (Nat.zero_le _) hj; rw [Bool.and_eq_true] at this; exact this, k2⟩
  · exact .inr ⟨⟨j, k2, k3⟩, k4⟩
noncomputable def gustsR (d h s r z : Nat) (n : Int) (x3 x4 : Nat) (x5 : Int) : Nat × Int × Bool × List Nat :=
  if (validAirB d h s r && (leastB z && (inB n 1 256 && (leastB x3 && (fromToB x4 0 1065353216 && (inB x5 0 2147483647 && (finB (speedAt d h s r z) && (gustS x3 x4 (speedAt d h s r z) x5 n.toNat).2.2.all finB))))))) = true
  then (n.toNat, (gustS x3 x4 (speedAt d h s r z) x5 n.toNat).1, true, (gustS x3 x4 (speedAt d h s r z) x5 n.toNat).2.2) else (0, 0, false, [])
theorem gust_all {x3 x4 sp : Nat} {x5 : Int} {n : Nat} : (gustS x3 x4 sp x5 n).2.2.all finB = true ↔ ∀ j, j < n → finB (gustAt x3 x4 sp x5 j) = true := by
  rw [gustS_list]; simp [List.all_eq_true]
theorem impl_GustsOf_eq (d h s r z : Nat) (n : Int) (x3 x4 : Nat) (x5 : Int) : F_impl_GustsOf d h s r z n x3 x4 x5 = some (gustsR d h s r z n x3 x4 x5) := by
  obtain ⟨p1, q1, r1⟩ := impl_SpeedAtHeight_of (impl_SpeedAtHeight_eq d h s r z)
  obtain ⟨p2, q2⟩ := impl_within_of (impl_within_eq n 1 256)
  obtain ⟨p3, q3⟩ := impl_isLeast_of (impl_isLeast_eq x3)
  obtain ⟨p4, q4⟩ := impl_isFromTo_of (impl_isFromTo_eq x4 0 1065353216)
  obtain ⟨p5, q5⟩ := impl_within_of (impl_within_eq x5 0 2147483647)
  unfold F_impl_GustsOf T_impl_GustsOf gustsR
  simp only [p1, q1, r1, p2, q2, p3, q3, p4, q4, p5, q5, grd_true]
  unfold speedR
  cases h1 : validAirB d h s r
  · rfl
  · cases h2 : leastB z
    · rfl
    · simp only [Bool.and_true, Bool.true_and, if_true]
      cases h3 : finB (speedAt d h s r z)
      · cases inB n 1 256 <;> cases leastB x3 <;> cases fromToB x4 0 1065353216 <;> cases inB x5 0 2147483647 <;> rfl
      · cases h4 : inB n 1 256
        · rfl
        · cases leastB x3
          · rfl
          · cases fromToB x4 0 1065353216
            · rfl
            · cases inB x5 0 2147483647
              · rfl
              · have hn := inB_le h4
                obtain ⟨m, rfl⟩ : ∃ m : Nat, n = Int.ofNat m := ⟨n.toNat, by simp; omega⟩
                have hm : m ≤ 256 := by have := hn.2; simp at this; omega
                have hc : checkV (speedAt d h s r z) = speedAt d h s r z := by unfold checkV; rw [if_pos h3]
                rw [hc]
                obtain ⟨g1, g2, g3, _, _, _, g4⟩ := impl_GustsOf_l6_of0 rfl (impl_Gusts_loop (x3 := x3) (x4 := x4) (sp := speedAt d h s r z) (x5 := x5) hm)
                have hlen := gustS_length x3 x4 (speedAt d h s r z) x5 m
                have ht : (Int.ofNat m).toNat = m := rfl
                rw [ht]
                generalize gustS x3 x4 (speedAt d h s r z) x5 m = S at g2 g3 g4 hlen ⊢
                obtain ⟨seed, g, b⟩ := S
                simp only at hlen g2 g3 g4
                subst hlen
                obtain ⟨p6, q6⟩ := impl_areFinite_of (impl_areFinite_eq (xs := b) (by omega))
                simp only [g1, g2, g3, g4, pF_all, p6, q6, grd_true, bnot_true, br_false]
                cases b.all finB <;> rfl
theorem spec_GustsOf_eq (d h s r z : Nat) (n : Int) (x3 x4 : Nat) (x5 : Int) : F_spec_GustsOf d h s r z n x3 x4 x5 = some (gustsR d h s r z n x3 x4 x5) := by
  obtain ⟨p1, q1⟩ := spec_l04Is_of (spec_l04Is_eq d h s r)
  obtain ⟨p0, q0⟩ := spec_l02Least_of (spec_l02Least_eq z)
  obtain ⟨p2, q2⟩ := spec_l00In_of (spec_l00In_eq n 1 256)
  obtain ⟨p3, q3⟩ := spec_l02Least_of (spec_l02Least_eq x3)
  obtain ⟨p4, q4⟩ := spec_l04Share_of (spec_l04Share_eq x4)
  obtain ⟨p6, q6⟩ := spec_l00In_of (spec_l00In_eq x5 0 2147483647)
  obtain ⟨p5, q5⟩ := spec_l04Seed_of (show F_spec_l04Seed x5 = some (inB x5 0 2147483647) by unfold F_spec_l04Seed T_spec_l04Seed; rw [p6, q6]; rfl)
  unfold F_spec_GustsOf T_spec_GustsOf gustsR
  simp only [p1, q1, p0, q0, p2, q2, p3, q3, p4, q4, p5, q5, spec_l04Speed_p_eq, grd_true]
  cases h1 : validAirB d h s r
  · rfl
  · cases h2 : leastB z
    · rfl
    · cases h4 : inB n 1 256
      · rfl
      · cases leastB x3
        · rfl
        · cases fromToB x4 0 1065353216
          · rfl
          · cases inB x5 0 2147483647
            · rfl
            · have hn := inB_le h4
              obtain ⟨m, rfl⟩ : ∃ m : Nat, n = Int.ofNat m := ⟨n.toNat, by simp; omega⟩
              have hm : m ≤ 256 := by have := hn.2; simp at this; omega
              have hm1 : 1 ≤ m := by have := hn.1; simp at this; omega
              have ht : (Int.ofNat m).toNat = m := rfl
              rw [ht]
              show br _ _ (br _ _ (br _ _ (br _ _ (br _ _ (br _ _ (grd (spec_GustsOf_l7_p (Int.ofNat m) x3 x4 (speedAt d h s r z) x5 0 0 0 []) (br (spec_GustsOf_l7_w0 (Int.ofNat m) x3 x4 (speedAt d h s r z) x5 0 0 0 []) _ (some (spec_GustsOf_l7_a1_1 (Int.ofNat m) x3 x4 (speedAt d h s r z) x5 0 0 0 [], spec_GustsOf_l7_a1_0 (Int.ofNat m) x3 x4 (speedAt d h s r z) x5 0 0 0 [], true, spec_GustsOf_l7_a1_5 (Int.ofNat m) x3 x4 (speedAt d h s r z) x5 0 0 0 []))))))))) = _
              rcases spec_Gusts_loop (x3 := x3) (x4 := x4) (sp := speedAt d h s r z) (x5 := x5) hm with ⟨k1, k2⟩ | ⟨⟨j, k1, k3⟩, k2⟩
              · obtain ⟨g1, g2, g3, g4, _, _, _, g5⟩ := spec_GustsOf_l7_of1 rfl k2
                have hf := (k1 0 (by omega)).2
                have ha : (gustS x3 x4 (speedAt d h s r z) x5 m).2.2.all finB = true := gust_all.2 fun j hj => (k1 j hj).1
                rw [g1, g2, g3, g4, g5, hf, ha]; rfl
              · obtain ⟨g1, g2⟩ := spec_GustsOf_l7_of0 rfl k2
                have ha : (finB (speedAt d h s r z) && (gustS x3 x4 (speedAt d h s r z) x5 m).2.2.all finB) = false := by
                  cases hh : (finB (speedAt d h s r z) && (gustS x3 x4 (speedAt d h s r z) x5 m).2.2.all finB) with
                  | false => rfl
                  | true =>
                    rw [Bool.and_eq_true] at hh
                    rw [gust_all.1 hh.2 j k1, hh.1] at k3; cases k3
                rw [g1, g2, ha]; rfl
theorem gustsR_len (d h s r z : Nat) (n : Int) (x3 x4 : Nat) (x5 : Int) : (gustsR d h s r z n x3 x4 x5).2.2.2.length = (gustsR d h s r z n x3 x4 x5).1 ∧ (gustsR d h s r z n x3 x4 x5).1 ≤ 256 := by
  unfold gustsR
  split
  · rename_i hc
    simp only [Bool.and_eq_true] at hc
    have hn := inB_le hc.2.2.1
    exact ⟨gustS_length _ _ _ _ _, by show n.toNat ≤ 256; omega⟩
  · simp
theorem marks_pF (k0 : Int) (m : Nat) : pF (marks k0 m) 0 (muN m 1) = marks k0 m := by
  have := pF_all (marks k0 m); rw [marks_length] at this; exact this
theorem plain_FnExactGustsOf {d h s r z : Nat} {n : Int} {x3 x4 : Nat} {x5 : Int} (kd : canW .f32 d) (kh : canW .f32 h) (ks : canW .f32 s) (kr : canW .f32 r) (kz : canW .f32 z) (kn : bdI .i64 n) (k3 : canW .f32 x3) (k4 : canW .f32 x4) (k5 : bdI .i64 x5) :
    F_laws_FnExactGustsOf d h s r z n x3 x4 x5 = some true := by
  obtain ⟨p1, q1, r1, s1, t1⟩ := impl_GustsOf_of (impl_GustsOf_eq d h s r z n x3 x4 x5)
  obtain ⟨p2, q2, r2, s2, t2⟩ := spec_GustsOf_of (spec_GustsOf_eq d h s r z n x3 x4 x5)
  obtain ⟨h1, h2⟩ := gustsR_len d h s r z n x3 x4 x5
  generalize gustsR d h s r z n x3 x4 x5 = R at *
  obtain ⟨m, seed, ok, us⟩ := R
  simp only at h1 h2
  subst h1
  obtain ⟨p4, q4⟩ := laws_eqFloat32S_of (laws_eqFloat32S_refl (xs := us) (by omega))
  obtain ⟨b1, b2, _, _, b5⟩ := laws_FnExactGustsOf__markFloat32S_l2_of0 rfl (mark_loop (L := L_laws_FnExactGustsOf__markFloat32S_l2 us.length) (k0 := 1) (ys := us) rfl (by omega) (by omega) (by omega) (fun n k i b => by rw [L_laws_FnExactGustsOf__markFloat32S_l2_succ]; rfl))
  obtain ⟨c1, c2⟩ := laws_heldFloat32S_of (laws_heldFloat32S_eq (k0 := 1) (n := us.length) (by omega) (by omega) (by omega))
  have l2 : ltI (1 + (us.length : Int)) 0 = false := ltI_f (by omega)
  unfold F_laws_FnExactGustsOf T_laws_FnExactGustsOf
  simp only [laws_toAir_p_eq, p1, q1, r1, s1, t1, p2, q2, r2, s2, t2, pF_all, p4, q4, b1, b2, b5, marks_pF, c1, c2, l2, grd_true, br_false, bnot_true, beqB_self, neI_self]
end Go.Rf
