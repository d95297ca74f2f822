/-
  Plain laws.
-/
import Derived.Test.YtdhmognknjpemaaRotorsP
set_option linter.unusedVariables false
set_option linter.unusedSimpArgs false
set_option maxRecDepth 100000
set_option maxHeartbeats 4000000
namespace Go.Rf
open Go
def finB (x : Nat) : Bool := fcmp .eql .f32 (fop .sub .f32 x x) 0
def leastB (x : Nat) : Bool := finB x && fcmp .geq .f32 x 0
def posB (x : Nat) : Bool := finB x && fcmp .gtr .f32 x 0
theorem y96 {op : BinOp} {k : FloatKind} {x y : Nat} (h : nanB k x = true ∨ nanB k y = true) : floatBits op k x y = none := by
  unfold floatBits
  rcases h with h | h
  · obtain ⟨s, f, e⟩ := zpg h
    cases op <;> simp only [Ieee.Format.add, Ieee.Format.sub, Ieee.Format.mul, Ieee.Format.div, e, zua, zug, zte, Option.map_none]
  · obtain ⟨s, f, e⟩ := zpg h
    cases op <;> simp only [Ieee.Format.add, Ieee.Format.sub, Ieee.Format.mul, Ieee.Format.div, e, zsu, zt9, zsa, Option.map_none, Ieee.Datum.opposite]
theorem yc0 {op : BinOp} {k : FloatKind} {x y : Nat} (h : nanB k x = true ∨ nanB k y = true) : fop op k x y = qn k := by
  unfold fop
  rw [y96 h]; rfl
theorem yca {x : Nat} (h : finB x = true) : nanB .f32 x = false := by
  cases hn : nanB .f32 x with
  | false => rfl
  | true =>
    unfold finB at h
    rw [yc0 (.inl hn), (zbs .f32 (.inl (zu0 .f32))).1] at h
    cases h
theorem yaz : nanB .f32 0 = false := by decide +kernel
theorem yb7 {x y : Nat} (hx : nanB .f32 x = false) (hy : nanB .f32 y = false) : fcmp .leq .f32 x y = !fcmp .gtr .f32 x y := by
  obtain ⟨_, _, _, h4, h5, _⟩ := z5u .f32 hx hy
  rw [h4, h5]
  by_cases h : srung FloatKind.f32.format x ≤ srung FloatKind.f32.format y
  · rw [decide_eq_true h, decide_eq_false (by omega)]; rfl
  · rw [decide_eq_false h, decide_eq_true (by omega)]; rfl
theorem z7g (x : Nat) : zgu x = some (finB x) := rfl
theorem zw1 (x : Nat) : zea x = some (leastB x) := by
  obtain ⟨h1, h2⟩ := z7n (z7g x)
  unfold zea zef leastB
  rw [h1, h2]
  cases finB x <;> rfl
theorem zxp (x : Nat) : z8x x = some (!posB x) := by
  obtain ⟨h1, h2⟩ := z7n (z7g x)
  unfold z8x z8w posB
  rw [h1, h2]
  cases hf : finB x with
  | false => rfl
  | true => simp only [br_if, z0w, bnot, Bool.not_true, yb7 (yca hf) yaz]; simp
theorem y2v (x : Nat) : zay x = some (!leastB x) := by
  obtain ⟨h1, h2⟩ := zw2 (zw1 x)
  unfold zay zbb
  rw [h1, h2]; rfl
def checkV (x : Nat) : Nat := if finB x then x else 0
theorem zqb (x : Nat) : zbl x = some (checkV x, finB x) := by
  obtain ⟨h1, h2⟩ := z7n (z7g x)
  unfold zbl zed checkV
  rw [h1, h2]
  cases finB x <;> rfl
theorem ztm {xs : List Nat} (hl : xs.length < 281474976710656) : ∃ r : Int, z38 xs.length xs = some r ∧ leI 0 r = !xs.all leastB := by
  unfold z38 z39
  rcases y5e (L := z0n xs.length (Int.ofNat xs.length) xs) xs leastB (g := fun i => Int.ofNat i) (e := (Int.ofNat xs.length, false))
    (fun n i hi => by
      rw [z8z]; unfold z1i; rw [ltN_t hi, z90 hi, ix1, addI1 (by omega)]
      simp only [gF]
      generalize xs.getD i 0 = x
      obtain ⟨h1, h2⟩ := y2x (y2v x)
      simp only [br_if, z0w, h1, h2]
      rcases Bool.eq_false_or_eq_true (leastB x) with h | h <;> simp [h])
    (fun n => by rw [z8z]; unfold z1i; rw [ltN_f (Nat.le_refl _)]; rfl) hl with ⟨h1, h2⟩ | ⟨j, h2, h3, h4⟩
  · obtain ⟨g1, g2, _⟩ := zj5 rfl h2
    exact ⟨Int.negSucc 0, by rw [g1, g2]; rfl, by rw [h1]; rfl⟩
  · obtain ⟨g1, g2, g3⟩ := zj2 rfl h4
    exact ⟨Int.ofNat j, by rw [g1, g2, g3]; rfl, by rw [h3]; exact decide_eq_true (by simp)⟩
theorem zre {xs : List Nat} (hl : xs.length < 281474976710656) : z2w xs.length xs = some (!xs.all leastB) := by
  obtain ⟨r, h1, h2⟩ := ztm hl
  obtain ⟨g1, g2⟩ := zle h1
  unfold z2w z2t
  rw [z5r, g1, g2, h2]; rfl
theorem y4h {xs : List Nat} (hl : xs.length < 281474976710656) : zd2 xs.length xs = some (xs.all leastB) := by
  obtain ⟨g1, g2⟩ := zk7 (zre hl)
  unfold zd2 zcy
  rw [z5r, g1, g2]
  simp [z0w, bnot]
theorem zrc {xs : List Nat} (hl : xs.length < 281474976710656) : ∃ r : Int, z2u xs.length xs = some r ∧ leI 0 r = !xs.all posB := by
  unfold z2u z2r
  rcases y5e (L := z0j xs.length (Int.ofNat xs.length) xs) xs posB (g := fun i => Int.ofNat i) (e := (Int.ofNat xs.length, false))
    (fun n i hi => by
      rw [z8m]; unfold z15; rw [ltN_t hi, z90 hi, ix1, addI1 (by omega)]
      simp only [gF]
      generalize xs.getD i 0 = x
      obtain ⟨h1, h2⟩ := zx5 (zxp x)
      simp only [br_if, z0w, h1, h2]
      rcases Bool.eq_false_or_eq_true (posB x) with h | h <;> simp [h])
    (fun n => by rw [z8m]; unfold z15; rw [ltN_f (Nat.le_refl _)]; rfl) hl with ⟨h1, h2⟩ | ⟨j, h2, h3, h4⟩
  · obtain ⟨g1, g2, _⟩ := zg2 rfl h2
    exact ⟨Int.negSucc 0, by rw [g1, g2]; rfl, by rw [h1]; rfl⟩
  · obtain ⟨g1, g2, g3⟩ := zfz rfl h4
    exact ⟨Int.ofNat j, by rw [g1, g2, g3]; rfl, by rw [h3]; exact decide_eq_true (by simp)⟩
theorem zpu {xs : List Nat} (hl : xs.length < 281474976710656) : z29 xs.length xs = some (!xs.all posB) := by
  obtain ⟨r, h1, h2⟩ := zrc hl
  obtain ⟨g1, g2⟩ := zjx h1
  unfold z29 z2a
  rw [z5r, g1, g2, h2]; rfl
theorem zqw {xs : List Nat} (hl : xs.length < 281474976710656) : z74 xs.length xs = some (xs.all posB) := by
  obtain ⟨g1, g2⟩ := zgx (zpu hl)
  unfold z74 za7
  rw [z5r, g1, g2]
  simp [z0w, bnot]
theorem zzw (x y : Nat) : z74 2 (pF [x, y] 0 (muN 2 1)) = some (posB x && posB y) := by
  have := zqw (xs := [x, y]) (by simp)
  simpa [pF, muN] using this
def fromToB (x low high : Nat) : Bool := fcmp .geq .f32 x low && fcmp .leq .f32 x high
theorem zuv (x low high : Nat) : zco x low high = some (fromToB x low high) := by
  unfold zco zcu fromToB
  rcases Bool.eq_false_or_eq_true (fcmp .geq .f32 x low) with h | h <;> simp [h, br_if]
theorem zvq {x : Nat} (h : canW .f32 x) : zeb x = some (x : Int) := by
  obtain ⟨h1, h2⟩ := h
  unfold zeb zee
  rw [y01]
  cases hn : nanB .f32 x with
  | true =>
    rw [zbd hn] at h2
    subst h2
    rfl
  | false =>
    have h32 : (2 : Nat) ^ FloatKind.f32.format.width = 4294967296 := by decide
    rw [h32] at h1
    have e : cvI .i64 (Int.ofNat x) = (x : Int) := z7s (by simp) (by simp; omega)
    simp only [br_if, nanQ, hn, bnot, z0w, e]
    rfl
theorem y5y {x y : Nat} (hx : canW .f32 x) (hy : canW .f32 y) : ze6 x y = some (decide (x = y)) := by
  obtain ⟨h1, h2⟩ := zvo (zvq hx)
  obtain ⟨h3, h4⟩ := zvo (zvq hy)
  unfold ze6 zel
  rw [h1, h2, h3, h4]
  simp only [z0w, eqI]
  by_cases h : x = y
  · subst h; simp
  · rw [decide_eq_false h, decide_eq_false (by omega)]
theorem zvu {x : Nat} (h : nanB .f32 x = false) : ze8 (fcvV .f32 .f64 x) = some (ngB Ieee.single x) := by
  have e : ltI (cvI IntKind.i64 (Int.ofNat (fcvV .f32 .f64 x))) 0 = ngB Ieee.single x := yge h
  unfold ze8 zem
  rw [e]
  simp only [nanQ, bnot, ygv h, Bool.not_false, z0w]
theorem z9z {x y : Nat} (hx : canW .f32 x) (hy : canW .f32 y) : zav x y = some (decide (x = y)) := by
  unfold zav zaz
  rw [y01, y01]
  cases nx : nanB .f32 x
  · cases ny : nanB .f32 y
    · obtain ⟨g1, g2⟩ := zw4 (zvu nx)
      obtain ⟨g3, g4⟩ := zw4 (zvu ny)
      rw [g1, g2, g3, g4, (z5u .f32 nx ny).1]
      have h32 : (2 : Nat) ^ FloatKind.f32.format.width = 2 ^ 32 := by decide
      have key := ydx (x := x) (y := y) (by rw [← h32]; exact hx.1) (by rw [← h32]; exact hy.1)
      show (br (decide (srung Ieee.single x = srung Ieee.single y)) (some (ngB Ieee.single x == ngB Ieee.single y)) (some false)) = _
      by_cases h : srung Ieee.single x = srung Ieee.single y
      · rw [decide_eq_true h]
        show some (ngB Ieee.single x == ngB Ieee.single y) = _
        by_cases h' : ngB Ieee.single x = ngB Ieee.single y
        · rw [decide_eq_true (key.1 ⟨h, h'⟩), h']; simp
        · rw [decide_eq_false (fun e => h' (key.2 e).2)]
          simpa using h'
      · rw [decide_eq_false h, decide_eq_false (fun e => h (key.2 e).1)]
        rfl
    · rw [decide_eq_false (fun e => by subst e; rw [nx] at ny; cases ny)]
      rfl
  · cases ny : nanB .f32 y
    · rw [decide_eq_false (fun e => by subst e; rw [nx] at ny; cases ny)]
      rfl
    · have e1 : x = qn .f32 := by rw [← zbd nx]; exact hx.2.symm
      have e2 : y = qn .f32 := by rw [← zbd ny]; exact hy.2.symm
      rw [e1, e2]; simp [br]
theorem zkv : bnot true = false := rfl
theorem ltN (a b : Nat) : ltI (Int.ofNat a) (Int.ofNat b) = decide (a < b) := by by_cases h : a < b <;> simp [ltI, h] <;> omega
theorem zna {xs : List Nat} {i : Nat} (h : i < xs.length) : xs.getD i 0 ∈ xs := by
  rw [List.getD_eq_getElem?_getD, List.getElem?_eq_getElem h]; exact List.getElem_mem _
theorem yah {xs ys : List Nat} (h : ys.length = xs.length) : xs = ys ↔ ∀ j, j < xs.length → xs.getD j 0 = ys.getD j 0 := by
  constructor
  · rintro rfl _ _; rfl
  · intro k
    refine List.ext_getElem h.symm fun j h1 h2 => ?_
    have := k j h1
    simpa [List.getD_eq_getElem?_getD, h1, h2] using this
theorem y17 {xs ys : List Nat} (hx : ∀ x ∈ xs, canW .f32 x) (hy : ∀ x ∈ ys, canW .f32 x) (hl : xs.length < 281474976710656) : z1s xs.length xs ys.length ys = some (decide (xs = ys)) := by
  unfold z1s z1t
  by_cases h : ys.length = xs.length
  · have e3 : neI (Int.ofNat xs.length) (Int.ofNat ys.length) = false := by simp [neI, h]
    rw [e3, z7m]
    rcases scan (L := z0i ys.length xs.length (Int.ofNat xs.length) xs ys) (len := xs.length) (fun j => decide (xs.getD j 0 = ys.getD j 0)) (g := fun _ => ()) (e := (Int.ofNat xs.length, false))
      (fun n i hi => by
        obtain ⟨g1, g2⟩ := za5 (z9z (hx _ (zna hi)) (hy _ (zna (show i < ys.length by omega))))
        rw [z6z]; unfold z0x; rw [ltN_t hi, z90 hi, ix1, addI1 (by omega), z90 (show i < ys.length by omega)]
        simp only [zax, z0w, gF, g1, g2]
        cases decide (xs.getD i 0 = ys.getD i 0) <;> rfl)
      (fun n => by rw [z6z]; unfold z0x; rw [ltN_f (Nat.le_refl _)]; rfl) xs.length 0 big (by omega) (zdc hl) with ⟨k1, k2⟩ | ⟨j, k1, k2, k3, k4⟩
    · obtain ⟨g1, g2, _⟩ := zd6 rfl k2
      rw [decide_eq_true ((yah h).2 fun j hj => of_decide_eq_true (k1 j (Nat.zero_le _) hj))]
      show grd (z13 ys.length xs.length (Int.ofNat xs.length) xs ys (Int.ofNat 0)) (br (z12 ys.length xs.length (Int.ofNat xs.length) xs ys (Int.ofNat 0)) _ _) = _
      rw [g1, g2]; rfl
    · obtain ⟨g1, g2⟩ := zd5 rfl k4
      rw [decide_eq_false fun e => of_decide_eq_false k3 ((yah h).1 e j k2)]
      show grd (z13 ys.length xs.length (Int.ofNat xs.length) xs ys (Int.ofNat 0)) (br (z12 ys.length xs.length (Int.ofNat xs.length) xs ys (Int.ofNat 0)) _ _) = _
      rw [g1, g2]; rfl
  · have e3 : neI (Int.ofNat xs.length) (Int.ofNat ys.length) = true := by simp [neI]; omega
    rw [e3, decide_eq_false (by rintro rfl; exact h rfl)]; rfl
theorem zls {xs ys : List Nat} (hx : ∀ x ∈ xs, canW .f32 x) (hy : ∀ x ∈ ys, canW .f32 x) (hl : xs.length < 281474976710656) : za1 xs.length xs ys.length ys = some (decide (xs = ys)) := by
  obtain ⟨p1, q1⟩ := zeo (y17 hx hy hl)
  unfold za1 zac
  simp only [z5r, p1, q1, z0w]
theorem y0b {x : Nat} (h : nanB .f64 x = false) : zkj x = some (fint .down x) := by
  unfold zkj zjw
  simp only [nanQ, h, bnot, Bool.not_false, z0w]
def inB (n low high : Int) : Bool := decide (low ≤ n) && decide (n ≤ high)
theorem zrr (n low high : Int) : zgd n low high = some (inB n low high) := by
  unfold zgd zgi inB leI
  cases decide (low ≤ n) <;> rfl
theorem ye5 {n l h : Int} (e : inB n l h = true) : l ≤ n ∧ n ≤ h := by
  unfold inB at e
  rw [Bool.and_eq_true] at e
  exact ⟨of_decide_eq_true e.1, of_decide_eq_true e.2⟩
theorem zx7 {n : Nat} {b : List Nat} (x : Nat) (hb : b.length = n) (hn : n < 1099511627776) : okA2 n 1 4 (nF (pF [x] 0 (muN 1 1))) (nF b) 1 = true :=
  decide_eq_true ⟨by omega, by omega, by simp [nF, pF, muN], by simp [nF, hb]⟩
theorem runs {ρ : Type} {L : Nat → Int → Option ρ} {len : Nat} {e : ρ} (hs : ∀ n i, i < len → L (n + 1) (Int.ofNat i) = L n (Int.ofNat (i + 1))) (he : ∀ n, L (n + 1) (Int.ofNat len) = some e) (hl : len < 281474976710656) : L big 0 = some e := by
  have := folds (L := fun n i (_ : Unit) => L n i) (len := len) (fun _ _ => ()) (e := fun _ => e) (fun n i _ hi => hs n i hi) (fun n _ => he n) len 0 big () (by omega) (zdc hl)
  exact this
theorem y15 (x : Nat) : za8 x = some (!finB x) := by
  obtain ⟨h1, h2⟩ := z7n (z7g x)
  unfold za8 za0
  rw [h1, h2]; rfl
theorem zss {xs : List Nat} (hl : xs.length < 281474976710656) : ∃ r : Int, z32 xs.length xs = some r ∧ leI 0 r = !xs.all finB := by
  unfold z32 z33
  rcases y5e (L := z0m xs.length (Int.ofNat xs.length) xs) xs finB (g := fun i => Int.ofNat i) (e := (Int.ofNat xs.length, false))
    (fun n i hi => by
      rw [z8s]; unfold z18; rw [ltN_t hi, z90 hi, ix1, addI1 (by omega)]
      simp only [gF]
      generalize xs.getD i 0 = x
      obtain ⟨h1, h2⟩ := y0s (y15 x)
      simp only [br_if, z0w, h1, h2]
      rcases Bool.eq_false_or_eq_true (finB x) with h | h <;> simp [h])
    (fun n => by rw [z8s]; unfold z18; rw [ltN_f (Nat.le_refl _)]; rfl) hl with ⟨h1, h2⟩ | ⟨j, h2, h3, h4⟩
  · obtain ⟨g1, g2, _⟩ := zix rfl h2
    exact ⟨Int.negSucc 0, by rw [g1, g2]; rfl, by rw [h1]; rfl⟩
  · obtain ⟨g1, g2, g3⟩ := ziv rfl h4
    exact ⟨Int.ofNat j, by rw [g1, g2, g3]; rfl, by rw [h3]; exact decide_eq_true (by simp)⟩
theorem zqv {xs : List Nat} (hl : xs.length < 281474976710656) : z2i xs.length xs = some (!xs.all finB) := by
  obtain ⟨r, h1, h2⟩ := zss hl
  obtain ⟨g1, g2⟩ := zky h1
  unfold z2i z2j
  rw [z5r, g1, g2, h2]; rfl
theorem zt6 {xs : List Nat} (hl : xs.length < 281474976710656) : z9r xs.length xs = some (xs.all finB) := by
  obtain ⟨g1, g2⟩ := zj0 (zqv hl)
  unfold z9r zc0
  rw [z5r, g1, g2]
  simp [z0w, bnot]
theorem zlm (x : Nat) : finB x = finW .f32 x := by
  cases hn : nanB .f32 x with
  | true =>
    have h1 : finB x = false := by
      cases h : finB x with
      | false => rfl
      | true => rw [yca h] at hn; cases hn
    have h2 : finW .f32 x = false := by
      cases h : finW .f32 x with
      | false => rfl
      | true => rw [z4u h] at hn; cases hn
    rw [h1, h2]
  | false =>
    cases hf : finW .f32 x with
    | true =>
      unfold finB
      rw [zew hf hf]
      have h0 : (vl .f32 x - vl .f32 x).natAbs = 0 := by simp
      rw [h0, zrb]
      generalize sgn0 _ _ _ = s
      cases s <;> decide +kernel
    | false =>
      have hr := y50 hn hf
      unfold finB
      have e : fop .sub .f32 x x = qn .f32 := by
        unfold fop floatBits Ieee.Format.sub
        simp only [hr]
        cases nn .f32 x <;> simp [Ieee.Datum.opposite, Ieee.Datum.sum]
      rw [e]
      decide +kernel
theorem zut {k : FloatKind} {x : Nat} (h : nanB k x = true) : finW k x = false := by
  cases hf : finW k x with
  | false => rfl
  | true => rw [z4u hf] at h; cases h
theorem ygz (k : FloatKind) : finW k (qn k) = false := zut (zu0 k)
def walkS {σ α β : Type} (p : Nat → σ → Bool) (f : Nat → σ → σ) (g : Nat → σ → α) (e : σ → β) : Nat → Nat → σ → α ⊕ β
  | 0, _, s => .inr (e s)
  | k + 1, i, s => if p i s = true then walkS p f g e k (i + 1) (f i s) else .inl (g i s)
theorem walks {σ α β : Type} {L : Nat → Int → σ → Option (α ⊕ β)} {len : Nat} (p : Nat → σ → Bool) (f : Nat → σ → σ) {g : Nat → σ → α} {e : σ → β}
    (hs : ∀ n i s, i < len → L (n + 1) (Int.ofNat i) s = if p i s = true then L n (Int.ofNat (i + 1)) (f i s) else some (.inl (g i s))) (he : ∀ n s, L (n + 1) (Int.ofNat len) s = some (.inr (e s))) :
    ∀ k i n s, i + k = len → k < n → L n (Int.ofNat i) s = some (walkS p f g e k i s)
  | 0, i, n, s, hk, hn => by
    obtain ⟨n, rfl⟩ : ∃ m, n = m + 1 := ⟨n - 1, by omega⟩
    obtain rfl : i = len := by omega
    exact he n s
  | k + 1, i, n, s, hk, hn => by
    obtain ⟨n, rfl⟩ : ∃ m, n = m + 1 := ⟨n - 1, by omega⟩
    rw [hs n i s (by omega)]
    unfold walkS
    cases p i s
    · simp
    · simp only [if_true]
      exact walks p f hs he k (i + 1) n (f i s) (by omega) (by omega)
theorem eqN0 (i : Nat) : eqI (Int.ofNat i) 0 = decide (i = 0) := by
  unfold eqI
  by_cases h : i = 0
  · subst h; rfl
  · rw [decide_eq_false h]; exact decide_eq_false (by simp; omega)
theorem y8e {σ α β γ : Type} {p : Nat → σ → Bool} {f : Nat → σ → σ} {g : Nat → σ → α} {e : σ → β} : ∀ (k i : Nat) (s : σ), walkS p f g e k i s = (walkS p f g id k i s).map id e
  | 0, i, s => rfl
  | k + 1, i, s => by
    unfold walkS
    by_cases h : p i s = true
    · rw [if_pos h, if_pos h]; exact y8e (γ := γ) k (i + 1) (f i s)
    · rw [if_neg h, if_neg h]; rfl
theorem ix3 (i : Nat) : ixO 0 (Int.ofNat i) 3 = i * 3 := by simp [ixO]
def knotB (as : List Nat) (j : Nat) : Bool := fromToB (as.getD j 0) 3204448256 1056964608 && (decide (j = 0) || !fcmp .leq .f32 (as.getD j 0) (as.getD (j - 1) 0))
def profB (as ls ds : List Nat) (j : Nat) : Bool := knotB as j && (finB (ls.getD j 0) && leastB (ds.getD j 0))
def validProfB (as ls ds : List Nat) : Bool := decide (2 ≤ as.length) && (decide (as.length ≤ 24) && (decide (ls.length = as.length) && (decide (ds.length = as.length) && (List.range as.length).all (profB as ls ds))))
theorem zci {n : Nat} {p : Nat → Bool} : (List.range n).all p = true ↔ ∀ j, j < n → p j = true := by simp [List.all_eq_true]
theorem yfv {x y : Nat} : fcmp .geq .f32 x y = fcmp .leq .f32 y x := by
  cases hx : nanB .f32 x with
  | true => rw [(zbs .f32 (.inl hx)).2.2.2.2.2, (zbs .f32 (.inr hx)).2.2.2.1]
  | false =>
    cases hy : nanB .f32 y with
    | true => rw [(zbs .f32 (.inr hy)).2.2.2.2.2, (zbs .f32 (.inl hy)).2.2.2.1]
    | false => rw [(z5u .f32 hx hy).2.2.2.2.2, (z5u .f32 hy hx).2.2.2.1]
theorem ltN0 (i : Nat) : ltI 0 (Int.ofNat i) = !decide (i = 0) := by
  rw [show ltI 0 (Int.ofNat i) = decide (0 < i) from ltN 0 i]
  by_cases h : i = 0
  · rw [decide_eq_true h, decide_eq_false (by omega)]; rfl
  · rw [decide_eq_false h, decide_eq_true (by omega)]; rfl
theorem subN1 {i : Nat} (h : i ≠ 0) (h2 : i < 4611686018427387904) : subI .i64 (Int.ofNat i) 1 = Int.ofNat (i - 1) := by
  have : subI .i64 (Int.ofNat i) 1 = (i : Int) - 1 := z7s (by simp; omega) (by simp; omega)
  rw [this]; simp; omega
theorem zwe {as : List Nat} (hl : as.length ≤ 24) :
    z6c as.length (Int.ofNat as.length) as as.length 0 = true ∧ z5t as.length (Int.ofNat as.length) as as.length 0 = !(List.range as.length).all (knotB as) := by
  rcases scan (L := z2d as.length (Int.ofNat as.length) as as.length) (len := as.length) (knotB as) (g := fun _ => ()) (e := (Int.ofNat as.length, false))
    (fun n i hi => by
      rw [zku]; unfold z4d
      obtain ⟨p1, q1⟩ := zus (zuv (as.getD i 0) 3204448256 1056964608)
      rw [ltN_t hi, z90 hi, ix1, addI1 (by omega), ltN0]
      simp only [gF, p1, q1, z0w, zax]
      unfold knotB
      by_cases h0 : i = 0
      · subst h0
        cases fromToB (as.getD 0 0) 3204448256 1056964608 <;> rfl
      · rw [subN1 h0 (by omega), z90 (show i - 1 < as.length by omega), ix1, yfv, decide_eq_false h0]
        cases fromToB (as.getD i 0) 3204448256 1056964608
        · rfl
        · cases fcmp .leq .f32 (as.getD i 0) (as.getD (i - 1) 0) <;> rfl)
    (fun n => by rw [zku]; unfold z4d; rw [ltN_f (Nat.le_refl _)]; rfl) as.length 0 big (by omega) (zdc (by omega)) with ⟨h1, h2⟩ | ⟨j, _, h2, h3, h4⟩
  · obtain ⟨g1, g2, _⟩ := zv2 rfl h2
    rw [zci.2 fun j hj => h1 j (Nat.zero_le _) hj]
    exact ⟨g1, g2⟩
  · obtain ⟨g1, g2⟩ := zux rfl h4
    have : (List.range as.length).all (knotB as) = false := by
      cases hh : (List.range as.length).all (knotB as) with
      | false => rfl
      | true => rw [zci.1 hh j h2] at h3; cases h3
    rw [this]
    exact ⟨g1, g2⟩
theorem y99 {xs : List Nat} {p : Nat → Bool} : xs.all p = true ↔ ∀ j, j < xs.length → p (xs.getD j 0) = true := by
  rw [List.all_eq_true]
  constructor
  · intro h j hj; exact h _ (zna hj)
  · intro h x hx
    obtain ⟨i, hi, rfl⟩ := List.getElem_of_mem hx
    have := h i hi
    simpa [List.getD_eq_getElem?_getD, hi] using this
theorem ltN2 (n : Nat) : ltI (Int.ofNat n) 2 = !decide (2 ≤ n) := by
  rw [show ltI (Int.ofNat n) 2 = decide (n < 2) from ltN n 2]
  by_cases h : 2 ≤ n
  · rw [decide_eq_true h, decide_eq_false (by omega)]; rfl
  · rw [decide_eq_false h, decide_eq_true (by omega)]; rfl
theorem gtN (c n : Nat) : ltI (Int.ofNat c) (Int.ofNat n) = !decide (n ≤ c) := by
  rw [ltN]
  by_cases h : n ≤ c
  · rw [decide_eq_true h, decide_eq_false (by omega)]; rfl
  · rw [decide_eq_false h, decide_eq_true (by omega)]; rfl
theorem neN (m n : Nat) : neI (Int.ofNat m) (Int.ofNat n) = !decide (m = n) := by
  unfold neI
  by_cases h : m = n
  · subst h; simp
  · rw [decide_eq_false h]; simp; omega
theorem zzg {as ls ds : List Nat} (hl : ls.length < 281474976710656) (hd : ds.length < 281474976710656) : z9b as.length as ls.length ls ds.length ds = some (validProfB as ls ds) := by
  obtain ⟨p1, q1⟩ := zt4 (zt6 hl)
  obtain ⟨p2, q2⟩ := y57 (y4h hd)
  unfold z9b z9c validProfB
  rw [ltN2, show ltI 24 (Int.ofNat as.length) = !decide (as.length ≤ 24) from gtN 24 _, neN, neN]
  simp only [z5r, p1, q1, p2, q2, z0w]
  by_cases c1 : 2 ≤ as.length
  · by_cases c2 : as.length ≤ 24
    · by_cases c3 : ls.length = as.length
      · by_cases c4 : ds.length = as.length
        · obtain ⟨g1, g2⟩ := zwe c2
          rw [decide_eq_true c1, decide_eq_true c2, decide_eq_true c3, decide_eq_true c4, g1, g2]
          have key : (List.range as.length).all (profB as ls ds) = (ls.all finB && (ds.all leastB && (List.range as.length).all (knotB as))) := by
            rw [Bool.eq_iff_iff, Bool.and_eq_true, Bool.and_eq_true, zci, zci, y99, y99, c3, c4]
            constructor
            · intro h
              refine ⟨fun j hj => ?_, fun j hj => ?_, fun j hj => ?_⟩
              all_goals have := h j hj; unfold profB at this; simp only [Bool.and_eq_true] at this
              · exact this.2.1
              · exact this.2.2
              · exact this.1
            · rintro ⟨h1, h2, h3⟩ j hj
              unfold profB
              rw [h1 j hj, h2 j hj, h3 j hj]; rfl
          rw [key]
          cases ls.all finB <;> cases ds.all leastB <;> cases (List.range as.length).all (knotB as) <;> rfl
        · rw [decide_eq_false c4]
          rw [decide_eq_true c1, decide_eq_true c2, decide_eq_true c3]; rfl
      · rw [decide_eq_false c3]
        rw [decide_eq_true c1, decide_eq_true c2]; rfl
    · rw [decide_eq_false c2]
      rw [decide_eq_true c1]; rfl
  · rw [decide_eq_false c1]; rfl
def ringP (st : List Nat) (tip : Nat) (i s : Nat) : Bool := fcmp .gtr .f32 (st.getD (i * 3) 0) s && (fcmp .lss .f32 (st.getD (i * 3) 0) tip && (posB (st.getD (i * 3).succ 0) && finB (st.getD (i * 3).succ.succ 0)))
def ringsW (st : List Nat) (n hub tip : Nat) : Unit ⊕ Nat := walkS (ringP st tip) (fun i _ => st.getD (i * 3) 0) (fun _ _ => ()) id n 0 hub
def validRotorB (as ls ds st : List Nat) (n : Nat) (count : Int) (hub tip : Nat) : Bool :=
  validProfB as ls ds && (inB count 1 6 && (decide (2 ≤ n) && (decide (n ≤ 12) && (leastB hub && (finB tip && (ringsW st n hub tip).isRight)))))
theorem y06 {st : List Nat} {n hub tip : Nat} (hl : n ≤ 12) : z7c n (Int.ofNat n) st tip hub 0 = true ∧ z6v n (Int.ofNat n) st tip hub 0 = !(ringsW st n hub tip).isRight := by
  have hf := walks (L := fun m i s => z1m n (Int.ofNat n) st tip m s i) (len := n) (ringP st tip) (fun i _ => st.getD (i * 3) 0) (g := fun _ _ => ()) (e := fun s => (s, Int.ofNat n, false))
    (fun m i s hi => by
      show z1m _ _ _ _ _ _ _ = if _ then z1m _ _ _ _ _ _ _ else _
      rw [zm1]; unfold z51
      obtain ⟨p1, q1⟩ := zr1 (show z74 1 (pF [st.getD (i * 3).succ 0] 0 (muN 1 1)) = some (posB (st.getD (i * 3).succ 0)) by
        have := zqw (xs := [st.getD (i * 3).succ 0]) (by simp)
        simpa [pF, muN] using this)
      obtain ⟨p2, q2⟩ := z7n (z7g (st.getD (i * 3).succ.succ 0))
      rw [ltN_t hi, z90 hi, ix3, addI1 (by omega)]
      simp only [gF, p1, q1, p2, q2, z0w, zax]
      unfold ringP
      cases fcmp .gtr .f32 (st.getD (i * 3) 0) s <;> cases fcmp .lss .f32 (st.getD (i * 3) 0) tip <;> cases posB (st.getD (i * 3).succ 0) <;> cases finB (st.getD (i * 3).succ.succ 0) <;> rfl)
    (fun m s => by show z1m _ _ _ _ _ _ _ = _; rw [zm1]; unfold z51; rw [ltN_f (Nat.le_refl _)]; rfl) n 0 big hub (by omega) (zdc (by omega))
  rw [y8e (γ := Unit)] at hf
  have hw : ringsW st n hub tip = walkS (ringP st tip) (fun i _ => st.getD (i * 3) 0) (fun _ _ => ()) id n 0 hub := rfl
  rw [← hw] at hf
  cases hc : ringsW st n hub tip with
  | inl u => rw [hc] at hf; obtain ⟨g1, g2⟩ := zwp rfl hf; exact ⟨g1, g2⟩
  | inr s => rw [hc] at hf; obtain ⟨g1, g2, _⟩ := zx3 rfl hf; exact ⟨g1, g2⟩
theorem z3y {as ls ds st : List Nat} {n : Nat} {count : Int} {hub tip : Nat} (hl : ls.length < 281474976710656) (hd : ds.length < 281474976710656) :
    zb9 as.length as ls.length ls ds.length ds n st count hub tip = some (validRotorB as ls ds st n count hub tip) := by
  obtain ⟨p1, q1⟩ := zyt (zzg (as := as) hl hd)
  obtain ⟨p2, q2⟩ := zrg (zrr count 1 6)
  obtain ⟨p3, q3⟩ := zw2 (zw1 hub)
  obtain ⟨p4, q4⟩ := z7n (z7g tip)
  unfold zb9 zb3 validRotorB
  rw [ltN2, show ltI 12 (Int.ofNat n) = !decide (n ≤ 12) from gtN 12 _]
  simp only [z5r, p1, q1, p2, q2, p3, q3, p4, q4, z0w]
  by_cases c2 : n ≤ 12
  · obtain ⟨g1, g2⟩ := y06 (st := st) (hub := hub) (tip := tip) c2
    rw [g1, g2, decide_eq_true c2]
    cases validProfB as ls ds <;> cases inB count 1 6 <;> cases decide (2 ≤ n) <;> cases leastB hub <;> cases finB tip <;> cases (ringsW st n hub tip).isRight <;> rfl
  · rw [decide_eq_false c2]
    cases validProfB as ls ds <;> cases inB count 1 6 <;> cases decide (2 ≤ n) <;> rfl
def tipR (v : Bool) (tip wind speed : Nat) : Nat × Bool := if v = true then (if (posB wind && posB speed) = true then (checkV (fop .quo .f32 (fop .mul .f32 speed tip) wind), finB (fop .quo .f32 (fop .mul .f32 speed tip) wind)) else (0, false)) else (0, false)
theorem zui {as ls ds st : List Nat} {n : Nat} {count : Int} {hub tip : Nat} (wind speed : Nat) (z : st.length = n * 3) (hl : ls.length < 281474976710656) (hd : ds.length < 281474976710656) :
    z8g as.length as ls.length ls ds.length ds n st count hub tip wind speed = some (tipR (validRotorB as ls ds st n count hub tip) tip wind speed) := by
  have hst : pF st 0 (muN n 3) = st := z8h z
  obtain ⟨p1, q1⟩ := z3x (z3y (as := as) (st := st) (n := n) (count := count) (hub := hub) (tip := tip) hl hd)
  obtain ⟨p2, q2⟩ := zr1 (zzw wind speed)
  obtain ⟨p3, q3, r3⟩ := zqn (zqb (fop .quo .f32 (fop .mul .f32 speed tip) wind))
  unfold z8g zd3 tipR
  simp only [z5r, hst, p1, q1, p2, q2, p3, q3, r3, z0w]
  cases validRotorB as ls ds st n count hub tip <;> cases posB wind <;> cases posB speed <;> rfl
def solid (st : List Nat) (count : Int) (i : Int) : Nat := fop .quo .f32 (fop .mul .f32 (fOI .f32 count) (gF st (Nat.succ (ixO 0 i 3)))) (fop .mul .f32 1086918619 (gF st (ixO 0 i 3)))
def stationB (n : Nat) (i : Int) : Bool := inB i 0 (subI .i64 (Int.ofNat n) 1)
def solidR (v : Bool) (n : Nat) (st : List Nat) (count i : Int) : Nat × Bool := if v = true then (if stationB n i = true then (checkV (solid st count i), finB (solid st count i)) else (0, false)) else (0, false)
theorem zpw {n : Nat} {i : Int} (h : stationB n i = true) (hn : n ≤ 1099511627776) : okIx i n = true := by
  have h1 := ye5 h
  have : subI .i64 (Int.ofNat n) 1 = (n : Int) - 1 := z7s (by simp; omega) (by simp; omega)
  rw [this] at h1
  exact decide_eq_true ⟨h1.1, by omega⟩
theorem zbi {as ls ds st : List Nat} {n : Nat} {count : Int} {hub tip : Nat} (i : Int) : z7v as.length as ls.length ls ds.length ds n st count hub tip i = some (stationB n i) := by
  obtain ⟨p, q⟩ := zrg (zrr i 0 (subI .i64 (Int.ofNat n) 1))
  unfold z7v z7x
  rw [p, q]; rfl
theorem zs4 {as ls ds st : List Nat} {n : Nat} {count : Int} {hub tip : Nat} (i : Int) (z : st.length = n * 3) (hl : ls.length < 281474976710656) (hd : ds.length < 281474976710656) :
    z6n as.length as ls.length ls ds.length ds n st count hub tip i = some (solidR (validRotorB as ls ds st n count hub tip) n st count i) := by
  have hst : pF st 0 (muN n 3) = st := z8h z
  obtain ⟨p1, q1⟩ := z3x (z3y (as := as) (st := st) (n := n) (count := count) (hub := hub) (tip := tip) hl hd)
  obtain ⟨p2, q2⟩ := zbh (zbi (as := as) (ls := ls) (ds := ds) (st := st) (n := n) (count := count) (hub := hub) (tip := tip) i)
  obtain ⟨p3, q3, r3⟩ := zqn (zqb (solid st count i))
  unfold z6n zb0 solidR
  simp only [z5r, hst, p1, q1, p2, q2, z0w]
  cases hv : validRotorB as ls ds st n count hub tip
  · rfl
  · cases hi : stationB n i
    · rfl
    · have hn : n ≤ 12 := by
        unfold validRotorB at hv
        simp only [Bool.and_eq_true, decide_eq_true_eq] at hv
        exact hv.2.2.2.1
      obtain ⟨p4, q4⟩ := zw8 (show z8j as.length as ls.length ls ds.length ds n st count hub tip i = some (solid st count i) by
        unfold z8j z8k
        rw [zpw hi (by omega)]; rfl)
      simp only [p4, q4, p3, q3, r3, z0w, z7m, zkv, if_true]
def tripB (a b : List Nat) (i : Nat) : Bool := decide (a.getD (i * 3) 0 = b.getD (i * 3) 0) && (decide (a.getD (i * 3).succ 0 = b.getD (i * 3).succ 0) && decide (a.getD (i * 3).succ.succ 0 = b.getD (i * 3).succ.succ 0))
def ringsSame (n m : Nat) (a b : List Nat) : Bool := decide (n = m) && (List.range n).all (tripB a b)
theorem y14 {a b c d e f : Nat} (ha : canW .f32 a) (hb : canW .f32 b) (hc : canW .f32 c) (hd : canW .f32 d) (he : canW .f32 e) (hf : canW .f32 f) :
    za3 a b c d e f = some (decide (a = d) && (decide (b = e) && decide (c = f))) := by
  obtain ⟨p1, q1⟩ := za5 (z9z ha hd)
  obtain ⟨p2, q2⟩ := za5 (z9z hb he)
  obtain ⟨p3, q3⟩ := za5 (z9z hc hf)
  unfold za3 za4
  simp only [p1, p2, p3, q1, q2, q3, z0w]
  cases decide (a = d) <;> cases decide (b = e) <;> rfl
theorem zuu {a b : List Nat} {n m : Nat} (ha : ∀ x ∈ a, canW .f32 x) (hb : ∀ x ∈ b, canW .f32 x) (za : a.length = n * 3) (zb : b.length = m * 3) (hl : n < 281474976710656) :
    z0o n a m b = some (ringsSame n m a b) := by
  unfold z0o z0p ringsSame
  rw [neN]
  by_cases h : n = m
  · subst h
    rw [decide_eq_true rfl]
    rcases scan (L := z02 n n (Int.ofNat n) a b) (len := n) (tripB a b) (g := fun _ => ()) (e := (Int.ofNat n, false))
      (fun k i hi => by
        rw [z31]; unfold z07
        rw [ltN_t hi, z90 hi, ix3, addI1 (by omega)]
        obtain ⟨g1, g2⟩ := y1d (y14 (ha _ (zna (i := i * 3) (by omega))) (ha _ (zna (i := (i * 3).succ) (by omega))) (ha _ (zna (i := (i * 3).succ.succ) (by omega))) (hb _ (zna (i := i * 3) (by omega))) (hb _ (zna (i := (i * 3).succ) (by omega))) (hb _ (zna (i := (i * 3).succ.succ) (by omega))))
        simp only [zax, z0w, gF, g1, g2]
        unfold tripB
        cases (decide (a.getD (i * 3) 0 = b.getD (i * 3) 0) && (decide (a.getD (i * 3).succ 0 = b.getD (i * 3).succ 0) && decide (a.getD (i * 3).succ.succ 0 = b.getD (i * 3).succ.succ 0))) <;> rfl)
      (fun k => by rw [z31]; unfold z07; rw [ltN_f (Nat.le_refl _)]; rfl) n 0 big (by omega) (zdc hl) with ⟨k1, k2⟩ | ⟨j, k1, k2, k3, k4⟩
    · obtain ⟨g1, g2, _⟩ := z66 rfl k2
      rw [zci.2 fun j hj => k1 j (Nat.zero_le _) hj]
      show br _ _ (grd (z0e n n (Int.ofNat n) a b (Int.ofNat 0)) (br (z0d n n (Int.ofNat n) a b (Int.ofNat 0)) _ _)) = _
      rw [g1, g2]; rfl
    · obtain ⟨g1, g2⟩ := z65 rfl k4
      have : (List.range n).all (tripB a b) = false := by
        cases hh : (List.range n).all (tripB a b) with
        | false => rfl
        | true => rw [zci.1 hh j k2] at k3; cases k3
      rw [this]
      show br _ _ (grd (z0e n n (Int.ofNat n) a b (Int.ofNat 0)) (br (z0d n n (Int.ofNat n) a b (Int.ofNat 0)) _ _)) = _
      rw [g1, g2]; rfl
  · rw [decide_eq_false h]; rfl
def sameProfB (as ls ds as' ls' ds' : List Nat) : Bool := decide (as = as') && (decide (ls = ls') && decide (ds = ds'))
theorem y1c {as ls ds as' ls' ds' : List Nat} (ka : ∀ x ∈ as, canW .f32 x) (kl : ∀ x ∈ ls, canW .f32 x) (kd : ∀ x ∈ ds, canW .f32 x) (ka' : ∀ x ∈ as', canW .f32 x) (kl' : ∀ x ∈ ls', canW .f32 x) (kd' : ∀ x ∈ ds', canW .f32 x)
    (la : as.length < 281474976710656) (ll : ls.length < 281474976710656) (ld : ds.length < 281474976710656) :
    zad as.length as ls.length ls ds.length ds as'.length as' ls'.length ls' ds'.length ds' = some (sameProfB as ls ds as' ls' ds') := by
  obtain ⟨p1, q1⟩ := zlu (zls ka ka' la)
  obtain ⟨p2, q2⟩ := zlu (zls kl kl' ll)
  obtain ⟨p3, q3⟩ := zlu (zls kd kd' ld)
  unfold zad zab sameProfB
  simp only [z5r, p1, q1, p2, q2, p3, q3, z0w]
  cases decide (as = as') <;> cases decide (ls = ls') <;> rfl
def sameRotB (as ls ds st : List Nat) (n : Nat) (count : Int) (hub tip : Nat) (as' ls' ds' st' : List Nat) (n' : Nat) (count' : Int) (hub' tip' : Nat) : Bool :=
  sameProfB as ls ds as' ls' ds' && (ringsSame n n' st st' && (decide (count = count') && (decide (hub = hub') && decide (tip = tip'))))
theorem y3e {as ls ds st : List Nat} {n : Nat} {count : Int} {hub tip : Nat} {as' ls' ds' st' : List Nat} {n' : Nat} {count' : Int} {hub' tip' : Nat}   (ka : ∀ x ∈ as, canW .f32 x) (kl : ∀ x ∈ ls, canW .f32 x) (kd : ∀ x ∈ ds, canW .f32 x) (z : st.length = n * 3) (ks : ∀ x ∈ st, canW .f32 x) (kh : canW .f32 hub) (kt : canW .f32 tip)   (ka' : ∀ x ∈ as', canW .f32 x) (kl' : ∀ x ∈ ls', canW .f32 x) (kd' : ∀ x ∈ ds', canW .f32 x) (z' : st'.length = n' * 3) (ks' : ∀ x ∈ st', canW .f32 x) (kh' : canW .f32 hub') (kt' : canW .f32 tip')   (la : as.length < 281474976710656) (ll : ls.length < 281474976710656) (ld : ds.length < 281474976710656) (ln : n < 281474976710656) : z9v as.length as ls.length ls ds.length ds n st count hub tip as'.length as' ls'.length ls' ds'.length ds' n' st' count' hub' tip' = some (sameRotB as ls ds st n count hub tip as' ls' ds' st' n' count' hub' tip') := by
  have hst : pF st 0 (muN n 3) = st := z8h z
  have hst' : pF st' 0 (muN n' 3) = st' := z8h z'
  obtain ⟨p1, q1⟩ := y0l (y1c ka kl kd ka' kl' kd' la ll ld)
  obtain ⟨p2, q2⟩ := z6p (zuu ks ks' z z' ln)
  obtain ⟨p3, q3⟩ := za5 (z9z kh kh')
  obtain ⟨p4, q4⟩ := za5 (z9z kt kt')
  unfold z9v zc1 sameRotB
  simp only [z5r, hst, hst', p1, q1, p2, q2, p3, q3, p4, q4, z0w, eqI]
  cases sameProfB as ls ds as' ls' ds' <;> cases ringsSame n n' st st' <;> cases decide (count = count') <;> cases decide (hub = hub') <;> rfl
theorem yal {R : Type} {c : Bool} {x y : Option R} (h : c = true → x = y) : unk c x y = y := by
  unfold unk
  cases c
  · rfl
  · rw [h rfl]; simp
theorem zq2 {xs : List Nat} (hl : xs.length ≤ 1099511627776) : z5v xs.length xs = some (xs.length, xs) := by
  have ho : okA2 0 xs.length 4 (nF xs) (nF []) 1 = true := decide_eq_true ⟨by omega, by omega, by simp [nF], by simp [nF]⟩
  unfold z5v z79
  rw [z5r, ho, yal]
  · show some (0 + xs.length, xs) = _
    rw [Nat.zero_add]
  · intro h
    have h0 : xs.length = 0 := of_decide_eq_true h
    obtain rfl := List.eq_nil_of_length_eq_zero h0
    rfl
theorem zr2 {as ls ds : List Nat} (ha : as.length ≤ 1099511627776) (hl : ls.length ≤ 1099511627776) (hd : ds.length ≤ 1099511627776) :
    z4g as.length as ls.length ls ds.length ds = some (as.length, ls.length, ds.length, as, ls, ds) := by
  obtain ⟨p1, q1, r1⟩ := zf4 (zq2 ha)
  obtain ⟨p2, q2, r2⟩ := zf4 (zq2 hl)
  obtain ⟨p3, q3, r3⟩ := zf4 (zq2 hd)
  unfold z4g za9
  simp only [z5r, p1, q1, r1, p2, q2, r2, p3, q3, r3, z0w]
def mixed (a b s : Nat) : Nat := fop .add .f32 a (fop .mul .f32 s (fop .sub .f32 b a))
theorem zrh {as ls ds : List Nat} (h : validProfB as ls ds = true) : 2 ≤ as.length ∧ as.length ≤ 24 ∧ ls.length = as.length ∧ ds.length = as.length := by
  unfold validProfB at h
  simp only [Bool.and_eq_true, decide_eq_true_eq] at h
  exact ⟨h.1, h.2.1, h.2.2.1, h.2.2.2.1⟩
theorem zwx (k : FloatKind) (x : Nat) : fcmp .neq k (fop .sub k x x) 0 = !finW k x := by
  cases hn : nanB k x with
  | true =>
    rw [yc0 (.inl hn), (zbs k (.inl (zu0 k))).2.1, zut hn]; rfl
  | false =>
    cases hf : finW k x with
    | true =>
      rw [zew hf hf]
      have h0 : (vl k x - vl k x).natAbs = 0 := by simp
      rw [h0, zrb]
      generalize sgn0 _ _ _ = s
      cases k <;> cases s <;> decide +kernel
    | false =>
      have hr := y50 hn hf
      have e : fop .sub k x x = qn k := by
        unfold fop floatBits Ieee.Format.sub
        simp only [hr]
        cases nn k x <;> simp [Ieee.Datum.opposite, Ieee.Datum.sum]
      rw [e, (zbs k (.inl (zu0 k))).2.1]; rfl
def rnd1 (u D p : Nat) : Nat := fop .sub .f64 4607182418800017408 (fop .quo .f64 (fop .mul .f64 u p) D)
def poly (u : Nat) : Nat := rnd1 u 4618441417868443648 (rnd1 u 4626322717216342016 (rnd1 u 4631107791820423168 (rnd1 u 4634766966517661696 (rnd1 u 4637440978796412928 (rnd1 u 4639692778610098176 (rnd1 u 4641592734702895104 (rnd1 u 4643492690795692032 4607182418800017408)))))))
theorem zyr (u : Nat) : zae u 4607182418800017408 4620693217682128896 = true ∧ z7z u 4607182418800017408 4620693217682128896 = poly u := by
  obtain ⟨n, hn⟩ : ∃ n, big = n + 9 := ⟨big - 9, by have := zdc (k := 9) (by decide); omega⟩
  have step : ∀ m p k k' D, fcmp .geq .f64 k 4607182418800017408 = true → fop .sub .f64 k 4607182418800017408 = k' → fop .mul .f64 (fop .mul .f64 4611686018427387904 k) (fop .add .f64 (fop .mul .f64 4611686018427387904 k) 4607182418800017408) = D →
      z4p u (m + 1) p k = z4p u m (rnd1 u D p) k' := by
    intro m p k k' D h1 h2 h3
    rw [zr0]; unfold z8v
    rw [h1, h2, h3]; rfl
  have hf : z4p u big 4607182418800017408 4620693217682128896 = some (poly u, 0, false) := by
    rw [hn, step (n + 8) _ 4620693217682128896 4619567317775286272 4643492690795692032 (by decide +kernel) (by decide +kernel) (by decide +kernel),
      step (n + 7) _ 4619567317775286272 4618441417868443648 4641592734702895104 (by decide +kernel) (by decide +kernel) (by decide +kernel),
      step (n + 6) _ 4618441417868443648 4617315517961601024 4639692778610098176 (by decide +kernel) (by decide +kernel) (by decide +kernel),
      step (n + 5) _ 4617315517961601024 4616189618054758400 4637440978796412928 (by decide +kernel) (by decide +kernel) (by decide +kernel),
      step (n + 4) _ 4616189618054758400 4613937818241073152 4634766966517661696 (by decide +kernel) (by decide +kernel) (by decide +kernel),
      step (n + 3) _ 4613937818241073152 4611686018427387904 4631107791820423168 (by decide +kernel) (by decide +kernel) (by decide +kernel),
      step (n + 2) _ 4611686018427387904 4607182418800017408 4626322717216342016 (by decide +kernel) (by decide +kernel) (by decide +kernel),
      step (n + 1) _ 4607182418800017408 0 4618441417868443648 (by decide +kernel) (by decide +kernel) (by decide +kernel)]
    rw [zr0]; unfold z8v
    rw [show fcmp .geq .f64 0 4607182418800017408 = false from by decide +kernel]; rfl
  obtain ⟨g1, g2, _⟩ := y4q rfl hf
  exact ⟨g1, g2⟩
theorem zxe (u : Nat) : z2x u 4607182418800017408 8 = true ∧ z0u u 4607182418800017408 8 = poly u := by
  obtain ⟨n, hn⟩ : ∃ n, big = n + 9 := ⟨big - 9, by have := zdc (k := 9) (by decide); omega⟩
  have step : ∀ m p (k k' : Int) D, leI 1 k = true → subI .i64 k 1 = k' → fOI .f64 (mulI .i64 (mulI .i64 2 k) (addI .i64 (mulI .i64 2 k) 1)) = D →
      z1r u (m + 1) p k = z1r u m (rnd1 u D p) k' := by
    intro m p k k' D h1 h2 h3
    rw [zkt]; unfold z4f
    rw [h1, h2, h3]; rfl
  have hf : z1r u big 4607182418800017408 8 = some (poly u, 0, false) := by
    rw [hn, step (n + 8) _ 8 7 4643492690795692032 (by decide +kernel) (by decide +kernel) (by decide +kernel),
      step (n + 7) _ 7 6 4641592734702895104 (by decide +kernel) (by decide +kernel) (by decide +kernel),
      step (n + 6) _ 6 5 4639692778610098176 (by decide +kernel) (by decide +kernel) (by decide +kernel),
      step (n + 5) _ 5 4 4637440978796412928 (by decide +kernel) (by decide +kernel) (by decide +kernel),
      step (n + 4) _ 4 3 4634766966517661696 (by decide +kernel) (by decide +kernel) (by decide +kernel),
      step (n + 3) _ 3 2 4631107791820423168 (by decide +kernel) (by decide +kernel) (by decide +kernel),
      step (n + 2) _ 2 1 4626322717216342016 (by decide +kernel) (by decide +kernel) (by decide +kernel),
      step (n + 1) _ 1 0 4618441417868443648 (by decide +kernel) (by decide +kernel) (by decide +kernel)]
    rw [zkt]; unfold z4f
    rw [show leI 1 0 = false from by decide +kernel]; rfl
  obtain ⟨g1, g2, _⟩ := zu3 rfl hf
  exact ⟨g1, g2⟩
end Go.Rf
