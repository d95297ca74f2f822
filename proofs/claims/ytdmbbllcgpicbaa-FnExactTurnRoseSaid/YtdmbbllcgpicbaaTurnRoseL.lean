/-
  Plain laws.
-/
import Derived.Test.YtdmbbllcgpicbaaTurnRoseP
set_option linter.unusedVariables false
set_option linter.unusedSimpArgs false
set_option maxRecDepth 100000
set_option maxHeartbeats 4000000
namespace Go.Rf
open Go
def finB (x : Nat) : Bool := fcmp .eql .f32 (fop .sub .f32 x x) 0
def leastB (x : Nat) : Bool := finB x && fcmp .geq .f32 x 0
theorem impl_IsFinite_eq (x : Nat) : z7g x = some (finB x) := rfl
theorem spec_l01Finite_eq (x : Nat) : z6o x = some (finB x) := rfl
theorem impl_isLeast_eq (x : Nat) : z65 x = some (leastB x) := by
  obtain ⟨h1, h2⟩ := zcr (impl_IsFinite_eq x)
  unfold z65 z67 leastB
  rw [h1, h2]
  cases finB x <;> rfl
theorem spec_l02Least_eq (x : Nat) : z5n x = some (leastB x) := by
  obtain ⟨h1, h2⟩ := zcb (spec_l01Finite_eq x)
  unfold z5n z5p leastB
  rw [h1, h2]
  cases finB x <;> rfl
theorem impl_areLeast_1_eq (x : Nat) : z53 x = some (!leastB x) := by
  obtain ⟨h1, h2⟩ := zcy (impl_isLeast_eq x)
  unfold z53 z50
  rw [h1, h2]; rfl
theorem laws_sameFloat_refl (x : Nat) : z5d x x = some true := by
  unfold z5d z5f
  simp only [neq_self]
  cases hn : nanB .f64 x with
  | true => rfl
  | false =>
    have he : fcmp .eql .f64 x x = true := by rw [(fcmp_num .f64 hn hn).1]; simp
    simp only [br_if, Bool.false_eq_true, if_false, he, beqB, BEq.rfl]
    split <;> rfl
theorem slices_IndexFunc_areLeast {xs : List Nat} (hl : xs.length < 281474976710656) : ∃ r : Int, z2r xs.length xs = some r ∧ leI 0 r = !xs.all leastB := by
  unfold z2r z2s
  rcases scan_all (L := z12 xs.length (Int.ofNat xs.length) xs) xs leastB (g := fun i => Int.ofNat i) (e := (Int.ofNat xs.length, false))
    (fun n i hi => by
      rw [z4c]; unfold z2c; rw [ltN_t hi, okIx_t hi, ix1, addI1 (by omega)]
      simp only [gF]
      generalize xs.getD i 0 = x
      obtain ⟨h1, h2⟩ := zc0 (impl_areLeast_1_eq x)
      simp only [br_if, grd_true, h1, h2]
      rcases Bool.eq_false_or_eq_true (leastB x) with h | h <;> simp [h])
    (fun n => by rw [z4c]; unfold z2c; rw [ltN_f (Nat.le_refl _)]; rfl) hl with ⟨h1, h2⟩ | ⟨j, h2, h3, h4⟩
  · obtain ⟨g1, g2, _⟩ := z7o rfl h2
    exact ⟨Int.negSucc 0, by rw [g1, g2]; rfl, by rw [h1]; rfl⟩
  · obtain ⟨g1, g2, g3⟩ := z7p rfl h4
    exact ⟨Int.ofNat j, by rw [g1, g2, g3]; rfl, by rw [h3]; exact decide_eq_true (by simp)⟩
theorem slices_ContainsFunc_areLeast {xs : List Nat} (hl : xs.length < 281474976710656) : z2p xs.length xs = some (!xs.all leastB) := by
  obtain ⟨r, h1, h2⟩ := slices_IndexFunc_areLeast hl
  obtain ⟨g1, g2⟩ := z99 h1
  unfold z2p z2o
  rw [pF_all, g1, g2, h2]; rfl
theorem impl_areLeast_eq {xs : List Nat} (hl : xs.length < 281474976710656) : z5u xs.length xs = some (xs.all leastB) := by
  obtain ⟨g1, g2⟩ := z7x (slices_ContainsFunc_areLeast hl)
  unfold z5u z5t
  rw [pF_all, g1, g2]
  simp [grd_true, bnot]
theorem laws_szFloat32S_eq (n : Nat) (xs : List Nat) (left : Int) : ∃ r, z51 n xs left = some r ∧ (0 ≤ left → left ≤ 1048576 → n ≤ 9223372036854775807 → (0 ≤ r → r = left - n ∧ (n : Int) ≤ left) ∧ r ≤ 1048576) := by
  unfold z51 z52
  by_cases h : subI .i64 left (Int.ofNat n) < 0
  · rw [ltI_t h]
    exact ⟨_, rfl, fun _ _ _ => ⟨fun q => by simp at q, by decide⟩⟩
  · rw [ltI_f h]
    refine ⟨_, rfl, fun h1 h2 h3 => ?_⟩
    have e : subI .i64 left (Int.ofNat n) = left - n := wrap64 (by simp; omega) (by simp; omega)
    rw [e] at h ⊢
    exact ⟨fun _ => ⟨rfl, by omega⟩, by omega⟩
theorem laws_toFloat32S_eq {xs : List Nat} (hl : xs.length ≤ 1099511627776) : z4d xs.length xs = some (xs.length, xs) := by
  have hf := folds (L := z2t xs.length xs.length xs) (len := xs.length) (fun i s => s.set i (xs.getD i 0)) (e := fun s => (Int.ofNat xs.length, false, s))
    (fun n i s hi => by rw [z9m]; unfold z3g; rw [ltN_t hi, okIx_t hi, ix1, addI1 (by omega)]; rfl)
    (fun n s => by rw [z9m]; unfold z3g; rw [ltN_f (Nat.le_refl _)]; rfl) xs.length 0 big (List.replicate xs.length 0) (by omega) (big_gt (by omega))
  rw [copy_fold xs _ _ _ (by omega) (by simp)] at hf
  simp only [List.take_zero, List.drop_zero, List.nil_append] at hf
  obtain ⟨g1, _, _, g2⟩ := zat rfl hf
  have e : rF (muN (toN (Int.ofNat xs.length)) 1) = List.replicate xs.length 0 := by simp [rF, muN, toN]
  have ho : okMk (Int.ofNat xs.length) (Int.ofNat xs.length) 4 = true := decide_eq_true ⟨rfl, by simp, by simp; omega, by decide⟩
  unfold z4d z54
  rw [e, ho, toN_nat]
  show grd (z4s xs.length xs.length xs (Int.ofNat 0) (List.replicate xs.length 0)) (some (_, z4b xs.length xs.length xs (Int.ofNat 0) (List.replicate xs.length 0))) = _
  rw [g1, g2]; rfl
theorem laws_eqFloat32S_refl {xs : List Nat} (hl : xs.length < 281474976710656) : z55 xs.length xs xs.length xs = some true := by
  have hn : neI (Int.ofNat xs.length) (Int.ofNat xs.length) = false := by simp [neI]
  unfold z55 z56
  rw [hn]
  rcases scan_all (L := z2u xs.length xs.length xs xs) xs (fun _ => true) (g := fun i => ()) (e := (Int.ofNat xs.length, false))
    (fun n i hi => by
      obtain ⟨h1, h2⟩ := zcl (laws_sameFloat_refl (fcvV FloatKind.f32 FloatKind.f64 (gF xs i)))
      rw [z9l]; unfold z3f; rw [ltN_t hi, okIx_t hi, ix1, addI1 (by omega), h1, h2]
      rfl)
    (fun n => by rw [z9l]; unfold z3f; rw [ltN_f (Nat.le_refl _)]; rfl) hl with ⟨h1, h2⟩ | ⟨j, h2, h3, h4⟩
  · obtain ⟨g1, g2, _⟩ := zau rfl h2
    rw [g1, g2]; rfl
  · simp at h3
theorem laws_toRose_eq {xs ys : List Nat} (hx : xs.length ≤ 1099511627776) (hy : ys.length ≤ 1099511627776) : z4h xs.length xs ys.length ys = some (xs.length, ys.length, xs, ys) := by
  obtain ⟨p1, q1, r1⟩ := za1 (laws_toFloat32S_eq hx)
  obtain ⟨p2, q2, r2⟩ := za1 (laws_toFloat32S_eq hy)
  unfold z4h z74
  simp only [pF_all, p1, q1, r1, p2, q2, r2, grd_true]
theorem laws_eqRose_refl {xs ys : List Nat} (hx : xs.length < 281474976710656) (hy : ys.length < 281474976710656) : z6y xs.length xs ys.length ys xs.length xs ys.length ys = some true := by
  obtain ⟨p1, q1⟩ := z9z (laws_eqFloat32S_refl hx)
  obtain ⟨p2, q2⟩ := z9z (laws_eqFloat32S_refl hy)
  unfold z6y z75
  simp only [pF_all, p1, q1, p2, q2, grd_true]
  rfl
def validRoseB (xs ys : List Nat) : Bool := decide (1 ≤ xs.length) && (decide (xs.length ≤ 16) && (decide (ys.length = xs.length) && (xs.all leastB && ys.all leastB)))
theorem impl_ValidRose_eq {xs ys : List Nat} (hx : xs.length < 281474976710656) (hy : ys.length < 281474976710656) : z5e xs.length xs ys.length ys = some (validRoseB xs ys) := by
  obtain ⟨p1, q1⟩ := zad (impl_areLeast_eq hx)
  obtain ⟨p2, q2⟩ := zad (impl_areLeast_eq hy)
  have e1 : leI 1 (Int.ofNat xs.length) = decide (1 ≤ xs.length) := by by_cases h : 1 ≤ xs.length <;> simp [leI, h] <;> omega
  have e2 : leI (Int.ofNat xs.length) 16 = decide (xs.length ≤ 16) := by by_cases h : xs.length ≤ 16 <;> simp [leI, h] <;> omega
  have e3 : eqI (Int.ofNat ys.length) (Int.ofNat xs.length) = decide (ys.length = xs.length) := by by_cases h : ys.length = xs.length <;> simp [eqI, h] <;> omega
  unfold z5e z5c validRoseB
  simp only [pF_all, p1, q1, p2, q2, grd_true]
  rw [e1, e2, e3]
  cases decide (1 ≤ xs.length) <;> cases decide (xs.length ≤ 16) <;> cases decide (ys.length = xs.length) <;> cases xs.all leastB <;> rfl
theorem all_zip {p : Nat → Bool} {xs ys : List Nat} (h : ys.length = xs.length) : (xs.all p && ys.all p) = true ↔ ∀ j, j < xs.length → (p (xs.getD j 0) && p (ys.getD j 0)) = true := by
  rw [Bool.and_eq_true, List.all_eq_true, List.all_eq_true]
  constructor
  · rintro ⟨h1, h2⟩ j hj
    rw [Bool.and_eq_true]
    refine ⟨h1 _ ?_, h2 _ ?_⟩
    · rw [List.getD_eq_getElem?_getD, List.getElem?_eq_getElem hj]; exact List.getElem_mem _
    · rw [List.getD_eq_getElem?_getD, List.getElem?_eq_getElem (by omega)]; exact List.getElem_mem _
  · intro hh
    refine ⟨fun x hx => ?_, fun y hy => ?_⟩
    · obtain ⟨j, hj, rfl⟩ := List.getElem_of_mem hx
      have := (Bool.and_eq_true _ _ ▸ hh j hj).1
      simpa [List.getD_eq_getElem?_getD, hj] using this
    · obtain ⟨j, hj, rfl⟩ := List.getElem_of_mem hy
      have := (Bool.and_eq_true _ _ ▸ hh j (by omega)).2
      simpa [List.getD_eq_getElem?_getD, hj] using this
theorem spec_l04Rose_eq {xs ys : List Nat} (hx : xs.length < 281474976710656) : z64 xs.length xs ys.length ys = some (validRoseB xs ys) := by
  unfold z64 z63 validRoseB
  by_cases h1 : 1 ≤ xs.length
  · have e1 : ltI (Int.ofNat xs.length) 1 = false := ltI_f (by simp; omega)
    rw [e1, decide_eq_true h1]
    by_cases h2 : xs.length ≤ 16
    · have e2 : ltI 16 (Int.ofNat xs.length) = false := ltI_f (by simp; omega)
      rw [e2, decide_eq_true h2]
      by_cases h3 : ys.length = xs.length
      · have e3 : neI (Int.ofNat ys.length) (Int.ofNat xs.length) = false := by simp [neI, h3]
        rw [e3, decide_eq_true h3]
        simp only [br_false, Bool.true_and]
        rcases scan (L := z2w (Int.ofNat xs.length) xs ys xs.length ys.length) (len := xs.length) (fun j => leastB (xs.getD j 0) && leastB (ys.getD j 0)) (g := fun _ => ()) (e := (Int.ofNat xs.length, false))
          (fun n i hi => by
            obtain ⟨g1, g2⟩ := zac (spec_l02Least_eq (xs.getD i 0))
            obtain ⟨g3, g4⟩ := zac (spec_l02Least_eq (ys.getD i 0))
            rw [z9s]; unfold z3y; rw [ltN_t hi, okIx_t hi, ix1, addI1 (by omega), okIx_t (show i < ys.length by omega)]
            simp only [br_true, grd_true, gF, g1, g2, g3, g4]
            cases leastB (xs.getD i 0) <;> cases leastB (ys.getD i 0) <;> rfl)
          (fun n => by rw [z9s]; unfold z3y; rw [ltN_f (Nat.le_refl _)]; rfl) xs.length 0 big (by omega) (big_gt hx) with ⟨k1, k2⟩ | ⟨j, k1, k2, k3, k4⟩
        · obtain ⟨g1, g2, _⟩ := zbo rfl k2
          have : (xs.all leastB && ys.all leastB) = true := (all_zip h3).2 fun j hj => k1 j (Nat.zero_le _) hj
          rw [this]
          show grd (z47 (Int.ofNat xs.length) xs ys xs.length ys.length (Int.ofNat 0)) (br (z44 (Int.ofNat xs.length) xs ys xs.length ys.length (Int.ofNat 0)) _ _) = _
          rw [g1, g2]; rfl
        · obtain ⟨g1, g2⟩ := zbq rfl k4
          have : (xs.all leastB && ys.all leastB) = false := by
            cases hh : (xs.all leastB && ys.all leastB) with
            | false => rfl
            | true => have := (all_zip h3).1 hh j k2; rw [k3] at this; cases this
          rw [this]
          show grd (z47 (Int.ofNat xs.length) xs ys xs.length ys.length (Int.ofNat 0)) (br (z44 (Int.ofNat xs.length) xs ys xs.length ys.length (Int.ofNat 0)) _ _) = _
          rw [g1, g2]; rfl
      · have e3 : neI (Int.ofNat ys.length) (Int.ofNat xs.length) = true := by simp [neI]; omega
        rw [e3, decide_eq_false h3]; rfl
    · have e2 : ltI 16 (Int.ofNat xs.length) = true := ltI_t (by simp; omega)
      rw [e2, decide_eq_false h2]; rfl
  · have e1 : ltI (Int.ofNat xs.length) 1 = true := ltI_t (by simp; omega)
    rw [e1, decide_eq_false h1]; rfl
theorem beqB_self (b : Bool) : beqB b b = true := by cases b <;> rfl
theorem neI_self (i : Int) : neI i i = false := by simp [neI]
theorem bnot_true : bnot true = false := rfl
theorem laws_szRose_gen {xs ys : List Nat} {left : Int} (hx : xs.length ≤ maxLen) (hy : ys.length ≤ maxLen) (h0 : 0 ≤ left) (h1 : left ≤ 1048576) : ∃ r, z70 xs.length xs ys.length ys left = some r ∧ (0 ≤ r → xs.length + ys.length ≤ 1048576) ∧ r ≤ 1048576 := by
  have hm : maxLen = 9223372036854775807 := by decide
  rw [hm] at hx hy
  obtain ⟨r1, h2, k1⟩ := laws_szFloat32S_eq xs.length xs left
  obtain ⟨p1, q1⟩ := za0 h2
  obtain ⟨k1, k1'⟩ := k1 h0 h1 hx
  obtain ⟨r2, h3, k2⟩ := laws_szFloat32S_eq ys.length ys r1
  obtain ⟨p2, q2⟩ := za0 h3
  unfold z70 z71
  simp only [pF_all, p1, q1, grd_true, p2, q2]
  by_cases c1 : r1 < 0
  · rw [ltI_t c1]
    exact ⟨_, rfl, fun h => by simp at h, by decide⟩
  · rw [ltI_f c1]
    obtain ⟨e1, e2⟩ := k1 (by omega)
    obtain ⟨k2, k2'⟩ := k2 (by omega) (by omega) hy
    by_cases c2 : r2 < 0
    · rw [ltI_t c2]
      exact ⟨_, rfl, fun h => by simp at h, by decide⟩
    · rw [ltI_f c2]
      obtain ⟨e3, e4⟩ := k2 (by omega)
      exact ⟨_, rfl, fun h => by omega, by omega⟩
theorem okNz_t {n : Int} (h : n ≠ 0) : okNz n = true := decide_eq_true h
def inB (n low high : Int) : Bool := decide (low ≤ n) && decide (n ≤ high)
theorem spec_l00In_eq (n low high : Int) : z84 n low high = some (inB n low high) := by
  unfold z84 z7w inB leI
  cases decide (low ≤ n) <;> rfl
theorem impl_within_eq (n low high : Int) : z72 n low high = some (inB n low high) := by
  unfold z72 z6z inB leI
  cases decide (low ≤ n) <;> rfl
theorem inB_le {n l h : Int} (e : inB n l h = true) : l ≤ n ∧ n ≤ h := by
  unfold inB at e
  rw [Bool.and_eq_true] at e
  exact ⟨of_decide_eq_true e.1, of_decide_eq_true e.2⟩
def marks (k0 : Int) (n : Nat) : List Nat := (List.range n).map fun (j : Nat) => fOI .f32 (k0 + (j : Int))
theorem marks_length (k0 : Int) (n : Nat) : (marks k0 n).length = n := by simp [marks]
theorem marks_get {k0 : Int} {n i : Nat} (h : i < n) : (marks k0 n).getD i 0 = fOI .f32 (k0 + (i : Int)) := by
  simp [marks, List.getD_eq_getElem?_getD, h]
theorem fOI_nan (k : FloatKind) (n : Int) : nanB k (fOI k n) = false := by
  rw [show fOI k n = floatOfInt k n from rfl, fOI_eq]
  exact nanB_word k _ (rnd_inf _ _ _)
theorem addI_in {a b : Int} (h1 : -9223372036854775808 ≤ a + b) (h2 : a + b ≤ 9223372036854775807) : addI .i64 a b = a + b := wrap64 h1 h2
theorem mark_loop {L : Nat → Int → Int → List Nat → Option (Int × Int × Bool × List Nat)} {len : Nat} {k0 : Int} {ys : List Nat} (hy : ys.length = len) (hk : 0 ≤ k0) (hk2 : k0 ≤ 1099511627776) (hl : len < 281474976710656)
    (hs : ∀ n k i b, L (n + 1) k i b = br (ltI i (Int.ofNat len)) (grd (okIx i len) (L n (addI .i64 k 1) (addI .i64 i 1) (sF b (ixO 0 i 1) (fOI .f32 k)))) (some (k, i, ltI i (Int.ofNat len), b))) :
    L big k0 0 ys = some (k0 + (len : Int), Int.ofNat len, false, marks k0 len) := by
  have hf := folds (L := fun n i s => L n (k0 + i) i s) (len := len) (fun i s => s.set i ((marks k0 len).getD i 0)) (e := fun s => (k0 + (len : Int), Int.ofNat len, false, s))
    (fun n i s hi => by
      show L _ _ _ _ = L _ _ _ _
      rw [hs, ltN_t hi, okIx_t hi, ix1, addI1 (by omega), addI_in (by simp; omega) (by simp; omega), marks_get hi]
      have : k0 + Int.ofNat i + 1 = k0 + Int.ofNat (i + 1) := by simp; omega
      rw [this]; rfl)
    (fun n s => by show L _ _ _ _ = _; rw [hs, ltN_f (Nat.le_refl _)]; rfl) len 0 big ys (by omega) (big_gt hl)
  have hm := copy_fold (marks k0 len) len 0 ys (by simp [marks_length]) (by rw [marks_length, hy])
  rw [hm] at hf
  simpa using hf
theorem laws_heldFloat32S_eq {k0 : Int} {n : Nat} (hk : 0 ≤ k0) (hk2 : k0 ≤ 1099511627776) (hl : n < 281474976710656) : z4e n (marks k0 n) k0 = some (k0 + (n : Int)) := by
  unfold z4e z4f
  rcases scan (L := fun m i => z2g n (marks k0 n) m (k0 + i) i) (len := n) (fun _ => true) (g := fun _ => ()) (e := (k0 + (n : Int), Int.ofNat n, false))
    (fun m i hi => by
      show z2g _ _ _ _ _ = _
      rw [z8p]; unfold z33
      rw [ltN_t hi, okIx_t hi, ix1, addI1 (by omega), addI_in (by simp; omega) (by simp; omega)]
      have e : fcmp .neq .f32 (gF (marks k0 n) i) (fOI .f32 (k0 + Int.ofNat i)) = false := by
        show fcmp .neq .f32 ((marks k0 n).getD i 0) _ = false
        rw [marks_get hi]
        show fcmp .neq .f32 (fOI .f32 (k0 + Int.ofNat i)) (fOI .f32 (k0 + Int.ofNat i)) = false
        rw [neq_self, fOI_nan]
      have : k0 + Int.ofNat i + 1 = k0 + Int.ofNat (i + 1) := by simp; omega
      rw [e, this]; rfl)
    (fun m => by show z2g _ _ _ _ _ = _; rw [z8p]; unfold z33; rw [ltN_f (Nat.le_refl _)]; rfl) n 0 big (by omega) (big_gt hl) with ⟨k1, k2⟩ | ⟨j, k1, k2, k3, k4⟩
  · have k2 : z2g n (marks k0 n) big k0 0 = some (Sum.inr (k0 + (n : Int), Int.ofNat n, false)) := by simpa using k2
    obtain ⟨g1, g2, g3, _⟩ := zae rfl k2
    rw [g1, g2, g3]; rfl
  · cases k3
theorem take_succ_getD {ys : List Nat} {i : Nat} (h : i < ys.length) : ys.take i ++ [ys.getD i 0] = ys.take (i + 1) := by
  rw [List.take_succ_eq_append_getElem h]; simp [List.getD_eq_getElem?_getD, h]
theorem okA2_1 {n : Nat} {b : List Nat} (x : Nat) (hb : b.length = n) (hn : n < 1099511627776) : okA2 n 1 4 (nF (pF [x] 0 (muN 1 1))) (nF b) 1 = true :=
  decide_eq_true ⟨by omega, by omega, by simp [nF, pF, muN], by simp [nF, hb]⟩
theorem runs {ρ : Type} {L : Nat → Int → Option ρ} {len : Nat} {e : ρ} (hs : ∀ n i, i < len → L (n + 1) (Int.ofNat i) = L n (Int.ofNat (i + 1))) (he : ∀ n, L (n + 1) (Int.ofNat len) = some e) (hl : len < 281474976710656) : L big 0 = some e := by
  have := folds (L := fun n i (_ : Unit) => L n i) (len := len) (fun _ _ => ()) (e := fun _ => e) (fun n i _ hi => hs n i hi) (fun n _ => he n) len 0 big () (by omega) (big_gt hl)
  exact this
theorem validRoseB_len {xs ys : List Nat} (h : validRoseB xs ys = true) : 1 ≤ xs.length ∧ xs.length ≤ 16 ∧ ys.length = xs.length ∧ (∀ x ∈ xs, leastB x = true) ∧ ∀ y ∈ ys, leastB y = true := by
  unfold validRoseB at h
  simp only [Bool.and_eq_true, decide_eq_true_eq, List.all_eq_true] at h
  exact ⟨h.1, h.2.1, h.2.2.1, h.2.2.2.1, h.2.2.2.2⟩
theorem rose_law {xs ys : List Nat} (mx : xs.length ≤ maxLen) (my : ys.length ≤ maxLen) : ∃ r, z9d xs.length xs ys.length ys 1048576 = true ∧ z7u xs.length xs ys.length ys 1048576 = r ∧
    (r < 0 ∨ (ltI r 0 = false ∧ xs.length + ys.length ≤ 1048576 ∧ z9b xs.length xs ys.length ys = true ∧ z82 xs.length xs ys.length ys = xs.length ∧ z80 xs.length xs ys.length ys = ys.length ∧
      z88 xs.length xs ys.length ys = xs ∧ z7v xs.length xs ys.length ys = ys ∧ z73 xs.length xs ys.length ys xs.length xs ys.length ys = true ∧ z66 xs.length xs ys.length ys xs.length xs ys.length ys = true)) := by
  obtain ⟨r1, h1, k1, _⟩ := laws_szRose_gen (left := 1048576) mx my (by decide) (by decide)
  obtain ⟨p1, q1⟩ := zd3 h1
  refine ⟨r1, p1, q1, ?_⟩
  by_cases c1 : r1 < 0
  · exact .inl c1
  · have l1 := k1 (by omega)
    obtain ⟨p3, a3, b3, c3, d3⟩ := zd5 (laws_toRose_eq (xs := xs) (ys := ys) (by omega) (by omega))
    obtain ⟨p7, q7⟩ := zay (laws_eqRose_refl (xs := xs) (ys := ys) (by omega) (by omega))
    exact .inr ⟨ltI_f c1, l1, p3, a3, b3, c3, d3, p7, q7⟩
def turnI (b : Int) (n i : Nat) : Nat := (((i : Int) - b) % (n : Int)).toNat
theorem turnI_lt {b : Int} {n : Nat} (i : Nat) (h : 1 ≤ n) : turnI b n i < n := by
  unfold turnI
  have h1 := Int.emod_nonneg ((i : Int) - b) (show (n : Int) ≠ 0 by omega)
  have h2 := Int.emod_lt_of_pos ((i : Int) - b) (show (0 : Int) < n by omega)
  omega
theorem turnI_eq {b : Int} {n i : Nat} (h : 1 ≤ n) : Int.ofNat (turnI b n i) = ((i : Int) - b) % (n : Int) := by
  unfold turnI
  have h1 := Int.emod_nonneg ((i : Int) - b) (show (n : Int) ≠ 0 by omega)
  simp; omega
theorem impl_turn {b : Int} {n i : Nat} (h : 1 ≤ n) (h2 : n ≤ 16) (hi : i < n) (hb : -16 ≤ b ∧ b ≤ 16) : remI (addI .i64 (remI (subI .i64 (Int.ofNat i) b) (Int.ofNat n)) (Int.ofNat n)) (Int.ofNat n) = Int.ofNat (turnI b n i) := by
  have e : subI .i64 (Int.ofNat i) b = (i : Int) - b := wrap64 (by simp; omega) (by simp; omega)
  rw [e, turnI_eq h]
  show (addI .i64 (((i : Int) - b).tmod n) n).tmod n = _
  have hm : -(n : Int) < ((i : Int) - b).tmod n ∧ ((i : Int) - b).tmod n < n := by
    constructor
    · have := Int.lt_tmod_of_pos ((i : Int) - b) (show (0 : Int) < n by omega); omega
    · exact Int.tmod_lt_of_pos _ (by omega)
  rw [addI_in (by omega) (by omega), Int.tmod_eq_emod_of_nonneg (by omega), Int.add_emod_right]
  rw [Int.tmod_def, Int.sub_mul_emod_self_left]
theorem spec_turn {b : Int} {n i : Nat} (h : 1 ≤ n) (h2 : n ≤ 16) (hi : i < n) (hb : -16 ≤ b ∧ b ≤ 16) : remI (addI .i64 (subI .i64 (Int.ofNat i) b) (mulI .i64 (Int.ofNat n) 16)) (Int.ofNat n) = Int.ofNat (turnI b n i) := by
  have e : subI .i64 (Int.ofNat i) b = (i : Int) - b := wrap64 (by simp; omega) (by simp; omega)
  have e2 : mulI .i64 (Int.ofNat n) 16 = (n : Int) * 16 := wrap64 (by simp; omega) (by simp; omega)
  rw [e, e2, turnI_eq h]
  show (addI .i64 ((i : Int) - b) ((n : Int) * 16)).tmod n = _
  rw [addI_in (by omega) (by omega), Int.tmod_eq_emod_of_nonneg (by omega), Int.add_mul_emod_self_left]
def turned (xs : List Nat) (b : Int) : List Nat := (List.range xs.length).map fun i => xs.getD (turnI b xs.length i) 0
theorem turned_length (xs : List Nat) (b : Int) : (turned xs b).length = xs.length := by simp [turned]
theorem turned_get {xs : List Nat} {b : Int} {i : Nat} (h : i < xs.length) : (turned xs b).getD i 0 = xs.getD (turnI b xs.length i) 0 := by simp [turned, List.getD_eq_getElem?_getD, h]
def turnRoseR (xs ys : List Nat) (b : Int) : Nat × Nat × Bool × List Nat × List Nat :=
  if validRoseB xs ys = true then (if inB b (-16) 16 = true then (xs.length, ys.length, true, turned xs b, turned ys b) else (0, 0, false, [], [])) else (0, 0, false, [], [])
theorem impl_TurnRose_eq {xs ys : List Nat} (b : Int) (hx : xs.length < 281474976710656) (hy : ys.length < 281474976710656) : z42 xs.length xs ys.length ys b = some (turnRoseR xs ys b) := by
  obtain ⟨p1, q1⟩ := zc9 (impl_ValidRose_eq hx hy)
  obtain ⟨p2, q2⟩ := zd4 (impl_within_eq b (Int.negSucc 15) 16)
  unfold z42 z5q turnRoseR
  simp only [pF_all, p1, q1, p2, q2, grd_true]
  cases hv : validRoseB xs ys
  · rfl
  · cases hb : inB b (Int.negSucc 15) 16
    · have hb' : inB b (-16) 16 = false := hb
      rw [hb']; rfl
    · have hb' : inB b (-16) 16 = true := hb
      rw [hb']
      obtain ⟨k1, k2, k3, k4, k5⟩ := validRoseB_len hv
      have hr := inB_le hb'
      have hf := runs (L := fun n i => z2i b (Int.ofNat xs.length) (Int.ofNat xs.length) xs ys xs.length ys.length n i i.toNat i.toNat ((turned xs b).take i.toNat) ((turned ys b).take i.toNat)) (len := xs.length) (e := (Int.ofNat xs.length, false, xs.length, xs.length, turned xs b, turned ys b))
        (fun n i hi => by
          show z2i _ _ _ _ _ _ _ _ _ i i ((turned xs b).take i) ((turned ys b).take i) = z2i _ _ _ _ _ _ _ _ _ (i + 1) (i + 1) ((turned xs b).take (i + 1)) ((turned ys b).take (i + 1))
          rw [z9r]; unfold z3m
          have hz : okNz (Int.ofNat xs.length) = true := okNz_t (by show (xs.length : Int) ≠ 0; omega)
          have ht := turnI_lt (b := b) (n := xs.length) i k1
          rw [ltN_t hi, impl_turn k1 k2 hi hr, hz, okIx_t ht, okIx_t (show turnI b xs.length i < ys.length by omega), ix1, addI1 (by omega)]
          rw [okA2_1 _ (by rw [List.length_take, turned_length]; omega) (by omega), okA2_1 _ (by rw [List.length_take, turned_length]; omega) (by omega)]
          rw [← take_succ_getD (ys := turned xs b) (by rw [turned_length]; exact hi), ← take_succ_getD (ys := turned ys b) (by rw [turned_length]; omega), turned_get hi, turned_get (xs := ys) (by omega), k3]
          rfl)
        (fun n => by
          show z2i _ _ _ _ _ _ _ _ _ xs.length xs.length ((turned xs b).take xs.length) ((turned ys b).take xs.length) = _
          rw [z9r]; unfold z3m; rw [ltN_f (Nat.le_refl _), br_false, List.take_of_length_le (by rw [turned_length]; omega), List.take_of_length_le (by rw [turned_length]; omega)]) (by omega)
      obtain ⟨g1, _, _, g2, g3, g4, g5⟩ := zbf rfl hf
      have g1 : z5i b (Int.ofNat xs.length) (Int.ofNat xs.length) xs ys xs.length ys.length 0 0 0 [] [] = true := g1
      have g2 : z4m b (Int.ofNat xs.length) (Int.ofNat xs.length) xs ys xs.length ys.length 0 0 0 [] [] = xs.length := g2
      have g3 : z4k b (Int.ofNat xs.length) (Int.ofNat xs.length) xs ys xs.length ys.length 0 0 0 [] [] = xs.length := g3
      have g4 : z4j b (Int.ofNat xs.length) (Int.ofNat xs.length) xs ys xs.length ys.length 0 0 0 [] [] = turned xs b := g4
      have g5 : z4n b (Int.ofNat xs.length) (Int.ofNat xs.length) xs ys xs.length ys.length 0 0 0 [] [] = turned ys b := g5
      rw [k3] at g1 g2 g3 g4 g5
      simp only [g1, g2, g3, g4, g5, grd_true, bnot_true, br_false, if_true, k3]
theorem spec_TurnRose_eq {xs ys : List Nat} (b : Int) (hx : xs.length < 281474976710656) : z43 xs.length xs ys.length ys b = some (turnRoseR xs ys b) := by
  obtain ⟨p1, q1⟩ := zcv (spec_l04Rose_eq (ys := ys) hx)
  obtain ⟨p2, q2⟩ := zda (spec_l00In_eq b (Int.negSucc 15) 16)
  unfold z43 z5r turnRoseR
  simp only [pF_all, p1, q1, p2, q2, grd_true]
  cases hv : validRoseB xs ys
  · rfl
  · cases hb : inB b (Int.negSucc 15) 16
    · have hb' : inB b (-16) 16 = false := hb
      rw [hb']; rfl
    · have hb' : inB b (-16) 16 = true := hb
      rw [hb']
      obtain ⟨k1, k2, k3, k4, k5⟩ := validRoseB_len hv
      have hr := inB_le hb'
      have hf := runs (L := fun n i => z2h b (Int.ofNat xs.length) xs ys xs.length ys.length n i i.toNat i.toNat ((turned xs b).take i.toNat) ((turned ys b).take i.toNat)) (len := xs.length) (e := (Int.ofNat xs.length, false, xs.length, xs.length, turned xs b, turned ys b))
        (fun n i hi => by
          show z2h _ _ _ _ _ _ _ _ i i ((turned xs b).take i) ((turned ys b).take i) = z2h _ _ _ _ _ _ _ _ (i + 1) (i + 1) ((turned xs b).take (i + 1)) ((turned ys b).take (i + 1))
          rw [z9q]; unfold z3o
          have hz : okNz (Int.ofNat xs.length) = true := okNz_t (by show (xs.length : Int) ≠ 0; omega)
          have ht := turnI_lt (b := b) (n := xs.length) i k1
          rw [ltN_t hi, spec_turn k1 k2 hi hr, hz, okIx_t ht, okIx_t (show turnI b xs.length i < ys.length by omega), ix1, addI1 (by omega)]
          rw [okA2_1 _ (by rw [List.length_take, turned_length]; omega) (by omega), okA2_1 _ (by rw [List.length_take, turned_length]; omega) (by omega)]
          rw [← take_succ_getD (ys := turned xs b) (by rw [turned_length]; exact hi), ← take_succ_getD (ys := turned ys b) (by rw [turned_length]; omega), turned_get hi, turned_get (xs := ys) (by omega), k3]
          rfl)
        (fun n => by
          show z2h _ _ _ _ _ _ _ _ xs.length xs.length ((turned xs b).take xs.length) ((turned ys b).take xs.length) = _
          rw [z9q]; unfold z3o; rw [ltN_f (Nat.le_refl _), br_false, List.take_of_length_le (by rw [turned_length]; omega), List.take_of_length_le (by rw [turned_length]; omega)]) (by omega)
      obtain ⟨g1, _, _, g2, g3, g4, g5⟩ := zb9 rfl hf
      have g1 : z5h b (Int.ofNat xs.length) xs ys xs.length ys.length 0 0 0 [] [] = true := g1
      have g2 : z4o b (Int.ofNat xs.length) xs ys xs.length ys.length 0 0 0 [] [] = xs.length := g2
      have g3 : z4p b (Int.ofNat xs.length) xs ys xs.length ys.length 0 0 0 [] [] = xs.length := g3
      have g4 : z4i b (Int.ofNat xs.length) xs ys xs.length ys.length 0 0 0 [] [] = turned xs b := g4
      have g5 : z4l b (Int.ofNat xs.length) xs ys xs.length ys.length 0 0 0 [] [] = turned ys b := g5
      rw [k3] at g1 g2 g3 g4 g5
      simp only [g1, g2, g3, g4, g5, grd_true, bnot_true, br_false, if_true, k3]
theorem turnRoseR_len (xs ys : List Nat) (b : Int) : (turnRoseR xs ys b).2.2.2.1.length = (turnRoseR xs ys b).1 ∧ (turnRoseR xs ys b).2.2.2.2.length = (turnRoseR xs ys b).2.1 ∧ (turnRoseR xs ys b).1 ≤ 16 ∧ (turnRoseR xs ys b).2.1 ≤ 16 := by
  unfold turnRoseR
  split
  · rename_i h
    obtain ⟨k1, k2, k3, _⟩ := validRoseB_len h
    split
    · exact ⟨turned_length _ _, turned_length _ _, k2, by show ys.length ≤ 16; omega⟩
    · simp
  · simp
theorem laws_heldRose_eq {k0 : Int} {m n : Nat} (hk : 0 ≤ k0) (hk2 : k0 + (m : Int) ≤ 1099511627776) (hl : m < 281474976710656) (hn : n < 281474976710656) : z5m m (marks k0 m) n (marks (k0 + (m : Int)) n) k0 = some (k0 + (m : Int) + (n : Int)) := by
  obtain ⟨p1, q1⟩ := z9x (laws_heldFloat32S_eq (k0 := k0) (n := m) hk (by omega) hl)
  obtain ⟨p2, q2⟩ := z9x (laws_heldFloat32S_eq (k0 := k0 + (m : Int)) (n := n) (by omega) hk2 hn)
  have hm : ∀ k0 m, pF (marks k0 m) 0 (muN m 1) = marks k0 m := by
    intro k0 m
    have := pF_all (marks k0 m); rw [marks_length] at this; exact this
  have l1 : ltI (k0 + (m : Int)) 0 = false := ltI_f (by omega)
  have l2 : ltI (k0 + (m : Int) + (n : Int)) 0 = false := ltI_f (by omega)
  unfold z5m z5o
  simp only [hm, p1, q1, l1, p2, q2, l2, grd_true, br_false]
theorem plain_FnExactTurnRose {xs ys : List Nat} {b : Int} (hx : ∀ x ∈ xs, canW .f32 x) (mx : xs.length ≤ maxLen) (hy : ∀ x ∈ ys, canW .f32 x) (my : ys.length ≤ maxLen) (hb : bdI .i64 b) : z45 xs.length xs ys.length ys b = some true := by
  obtain ⟨r, p1, q1, h⟩ := rose_law mx my
  unfold z45 z46
  simp only [pF_all, p1, q1, grd_true]
  rcases h with h | ⟨e, l, p2, a2, b2, c2, d2, p3, q3⟩
  · rw [ltI_t h]; rfl
  · obtain ⟨p4, q4, r4, s4, t4, u4⟩ := zco (impl_TurnRose_eq (xs := xs) (ys := ys) b (by omega) (by omega))
    obtain ⟨p5, q5, r5, s5, t5, u5⟩ := zcn (spec_TurnRose_eq (xs := xs) (ys := ys) b (by omega))
    obtain ⟨h1, h2, h3, h4⟩ := turnRoseR_len xs ys b
    generalize turnRoseR xs ys b = R at *
    obtain ⟨m, n, ok, us, vs⟩ := R
    simp only at h1 h2 h3 h4
    subst h1 h2
    obtain ⟨p6, q6⟩ := zay (laws_eqRose_refl (xs := us) (ys := vs) (by omega) (by omega))
    obtain ⟨a1, a2', _⟩ := z8k rfl (mark_loop (L := z1k xs.length) (k0 := 1) (ys := xs) rfl (by omega) (by omega) (by omega) (fun n k i b => by rw [z7i]; rfl))
    obtain ⟨b1, b2', _⟩ := z7l rfl (mark_loop (L := z1f ys.length) (k0 := 1 + (xs.length : Int)) (ys := ys) rfl (by omega) (by omega) (by omega) (fun n k i b => by rw [z6r]; rfl))
    obtain ⟨c1, c2', _, _, c5⟩ := z7n rfl (mark_loop (L := z1g us.length) (k0 := 1) (ys := us) rfl (by omega) (by omega) (by omega) (fun n k i b => by rw [z6w]; rfl))
    obtain ⟨d1, d2', _, _, d5⟩ := z7k rfl (mark_loop (L := z1e vs.length) (k0 := 1 + (us.length : Int)) (ys := vs) rfl (by omega) (by omega) (by omega) (fun n k i b => by rw [z6t]; rfl))
    obtain ⟨e1, e2⟩ := zct (laws_heldRose_eq (k0 := 1) (m := us.length) (n := vs.length) (by omega) (by omega) (by omega) (by omega))
    have hm : ∀ k0 m, pF (marks k0 m) 0 (muN m 1) = marks k0 m := by
      intro k0 m
      have := pF_all (marks k0 m); rw [marks_length] at this; exact this
    have l1 : ltI (1 + (xs.length : Int) + (ys.length : Int)) 0 = false := ltI_f (by omega)
    have l2 : ltI (1 + (us.length : Int) + (vs.length : Int)) 0 = false := ltI_f (by omega)
    simp only [z1z, z59, z4a, z58, z1y, z6u, z2a, z2b, z2x, z2y, z4y, z4u, z6f, z48, z49, z6h, z6l, z4w, z4z, z6k, z6n, z68, z6b, z6e, z6i, z6m, z6j, z6d, z4x, z4v, z6g, e, p2, a2, b2, c2, d2, pF_all, p3, q3, p4, q4, r4, s4, t4, u4, p5, q5, r5, s5, t5, u5, p6, q6, a1, a2', b1, b2', c1, c2', c5, d1, d2', d5, hm, e1, e2, l1, l2, grd_true, br_false, bnot_true, beqB_self, neI_self]
end Go.Rf
