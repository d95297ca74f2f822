/-
  The order of floats, told by whole numbers.
-/
import Derived.Test.YtohhkgieggfpeaaNum
set_option linter.unusedVariables false
namespace Go.Rf
open Go

/-- The value of a rung, in units of the least place. -/
def rungV (f : Ieee.Format) (r : Nat) : Nat := if r < f.binade then r else (f.binade + r % f.binade) * 2 ^ (r / f.binade - 1)
theorem binade_pos (f : Ieee.Format) : 0 < f.binade := Nat.two_pow_pos _

theorem rungV_lt (f : Ieee.Format) {r s : Nat} (h : r < s) : rungV f r < rungV f s := by
  have hb := binade_pos f
  unfold rungV
  by_cases h1 : r < f.binade
  · rw [if_pos h1]
    by_cases h2 : s < f.binade
    · rw [if_pos h2]; exact h
    · rw [if_neg h2]
      have : f.binade + s % f.binade ≤ (f.binade + s % f.binade) * 2 ^ (s / f.binade - 1) := Nat.le_mul_of_pos_right _ (Nat.two_pow_pos _)
      omega
  · rw [if_neg h1, if_neg (by omega)]
    have hr := Nat.div_add_mod r f.binade
    have hs := Nat.div_add_mod s f.binade
    have hrm := Nat.mod_lt r hb
    have hsm := Nat.mod_lt s hb
    have hq : 1 ≤ r / f.binade := (Nat.le_div_iff_mul_le hb).2 (by omega)
    have hle : r / f.binade ≤ s / f.binade := Nat.div_le_div_right (Nat.le_of_lt h)
    rcases Nat.lt_or_ge (r / f.binade) (s / f.binade) with hlt | hge
    · have h3 : (f.binade + r % f.binade) * 2 ^ (r / f.binade - 1) < (2 * f.binade) * 2 ^ (r / f.binade - 1) := Nat.mul_lt_mul_of_pos_right (by omega) (Nat.two_pow_pos _)
      have h4 : (2 * f.binade) * 2 ^ (r / f.binade - 1) = f.binade * 2 ^ (r / f.binade) := by
        obtain ⟨q, hq'⟩ : ∃ q, r / f.binade = q + 1 := ⟨r / f.binade - 1, by omega⟩
        rw [hq', Nat.add_sub_cancel, Nat.pow_succ, Nat.mul_comm 2 f.binade, Nat.mul_assoc, Nat.mul_comm 2]
      have h5 : f.binade * 2 ^ (r / f.binade) ≤ f.binade * 2 ^ (s / f.binade - 1) := Nat.mul_le_mul_left _ (Nat.pow_le_pow_right (by decide) (by omega))
      have h6 : f.binade * 2 ^ (s / f.binade - 1) ≤ (f.binade + s % f.binade) * 2 ^ (s / f.binade - 1) := Nat.mul_le_mul_right _ (by omega)
      omega
    · have he : r / f.binade = s / f.binade := by omega
      rw [he] at hr ⊢
      exact Nat.mul_lt_mul_of_pos_right (by omega) (Nat.two_pow_pos _)

def ngB (f : Ieee.Format) (x : Nat) : Bool := x / f.signWeight % 2 == 1
def rg (f : Ieee.Format) (x : Nat) : Nat := x % f.signWeight
def sg (neg : Bool) (n : Nat) : Int := if neg then -(n : Int) else n
/-- The signed rung: floats that are no NaN stand to each other as these do. -/
def srung (f : Ieee.Format) (x : Nat) : Int := sg (ngB f x) (rg f x)

theorem cmp_int (x y : Int) : compare x y = if x < y then .lt else if x = y then .eq else .gt := rfl
theorem cmp_nat (x y : Nat) : compare x y = if x < y then .lt else if x = y then .eq else .gt := rfl
theorem cmp_scale (x y : Int) {k : Int} (hk : 0 < k) : compare (x * k) (y * k) = compare x y := by
  rw [cmp_int, cmp_int]
  have h1 : x * k < y * k ↔ x < y := ⟨fun h => Int.lt_of_mul_lt_mul_right h (Int.le_of_lt hk), fun h => Int.mul_lt_mul_of_pos_right h hk⟩
  have h2 : x * k = y * k ↔ x = y := ⟨fun h => Int.eq_of_mul_eq_mul_right (by omega) h, fun h => by rw [h]⟩
  simp only [h1, h2]
theorem cmp_sg (f : Ieee.Format) (s t : Bool) (a b : Nat) : compare (sg s (rungV f a)) (sg t (rungV f b)) = compare (sg s a) (sg t b) := by
  have mono : ∀ {a b : Nat}, a < b → rungV f a < rungV f b := fun h => rungV_lt f h
  have zero : rungV f 0 = 0 := by unfold rungV; rw [if_pos (binade_pos f)]
  have pos : ∀ {a : Nat}, 0 < a → 0 < rungV f a := fun h => by have := mono h; rw [zero] at this; exact this
  have key : ∀ (a b : Nat), (rungV f a < rungV f b ↔ a < b) ∧ (rungV f a = rungV f b ↔ a = b) := by
    intro a b
    rcases Nat.lt_trichotomy a b with h | rfl | h
    · have := mono h; omega
    · simp
    · have := mono h; omega
  have hz : ∀ a, rungV f a = 0 ↔ a = 0 := by
    intro a
    have := (key a 0).2
    rw [zero] at this
    exact this
  rw [cmp_int, cmp_int]
  obtain ⟨k1, k2⟩ := key a b
  obtain ⟨k3, k4⟩ := key b a
  have za := hz a
  have zb := hz b
  unfold sg
  cases s <;> cases t <;> simp only [Bool.false_eq_true, if_false, if_true]
  all_goals
    split <;> split <;> first | rfl | (exfalso; omega) | (split <;> first | rfl | (exfalso; omega) | (split <;> first | rfl | (exfalso; omega))) | skip
  all_goals
    first | rfl | (exfalso; omega) | (split <;> first | rfl | (exfalso; omega))

theorem signed_sg (s : Bool) (m u : Nat) : Ieee.signed s m u = sg s (m * 2 ^ u) := by
  unfold Ieee.signed sg
  rw [Nat.shiftLeft_eq]

theorem read_cases (f : Ieee.Format) (he : 0 < 2 ^ f.exponentBits - 1) (x : Nat) (h : rg f x ≤ f.infRung) :
    (∃ m a, f.read x = .number (ngB f x) m (f.leastPlace + (a : Nat)) ∧ m * 2 ^ a = rungV f (rg f x) ∧ rg f x < f.infRung) ∨ (f.read x = .infinity (ngB f x) ∧ rg f x = f.infRung ∧ f.binade ≤ f.infRung) := by
  unfold Ieee.Format.read
  by_cases h1 : x % f.signWeight < f.binade
  · simp only [if_pos h1]
    by_cases h2 : rg f x < f.infRung
    · left
      exact ⟨x % f.signWeight, 0, by simp [ngB], by unfold rungV rg; rw [if_pos h1]; simp, h2⟩
    · have : rg f x = f.infRung := by omega
      exfalso
      have hr : x % f.signWeight = f.infRung := this
      rw [hr] at h1
      unfold Ieee.Format.infRung at h1
      have hb := binade_pos f
      have := Nat.le_mul_of_pos_left f.binade he
      omega
  · simp only [if_neg h1]
    by_cases h2 : x % f.signWeight < f.infRung
    · left
      simp only [if_pos h2]
      exact ⟨_, _, rfl, by unfold rungV rg; rw [if_neg h1], h2⟩
    · have h3 : x % f.signWeight = f.infRung := by unfold rg at h; omega
      right
      simp only [if_neg h2, if_pos h3]
      exact ⟨rfl, h3, by omega⟩

theorem sg_scale (s : Bool) (n k : Nat) : sg s (n * k) = sg s n * k := by
  unfold sg
  cases s
  · simp
  · simp [Int.neg_mul]

theorem order_srung (f : Ieee.Format) (he : 0 < 2 ^ f.exponentBits - 1) {x y : Nat} (hx : rg f x ≤ f.infRung) (hy : rg f y ≤ f.infRung) : f.order x y = some (compare (srung f x) (srung f y)) := by
  unfold Ieee.Format.order srung
  rw [← cmp_sg f]
  have hinf : ∀ {r : Nat}, r < f.infRung → rungV f r < rungV f f.infRung := fun h => rungV_lt f h
  have h0 : ∀ r, 0 ≤ (rungV f r : Int) := fun r => Int.natCast_nonneg _
  rcases read_cases f he x hx with ⟨m, a, h1, h2, h3⟩ | ⟨h1, h2, h3⟩
  · rcases read_cases f he y hy with ⟨n, b, k1, k2, k3⟩ | ⟨k1, k2, k3⟩
    · rw [h1, k1]
      simp only [Ieee.Datum.order]
      rw [signed_sg, signed_sg]
      congr 1
      have hk : (0 : Int) < ((2 ^ (min a b) : Nat) : Int) := by exact_mod_cast Nat.two_pow_pos _
      rw [← cmp_scale _ _ hk, ← sg_scale, ← sg_scale]
      have e1 : m * 2 ^ (f.leastPlace + (a : Int) - min (f.leastPlace + (a : Int)) (f.leastPlace + (b : Int))).toNat * 2 ^ min a b = rungV f (rg f x) := by
        rw [Nat.mul_assoc, ← Nat.pow_add, ← h2]
        congr 2
        omega
      have e2 : n * 2 ^ (f.leastPlace + (b : Int) - min (f.leastPlace + (a : Int)) (f.leastPlace + (b : Int))).toNat * 2 ^ min a b = rungV f (rg f y) := by
        rw [Nat.mul_assoc, ← Nat.pow_add, ← k2]
        congr 2
        omega
      rw [e1, e2]
    · rw [h1, k1]
      simp only [Ieee.Datum.order]
      have := hinf h3
      rw [k2, cmp_int]
      congr 1
      unfold sg
      cases ngB f x <;> cases ngB f y <;> simp only [Bool.false_eq_true, if_false, if_true]
      all_goals (split <;> first | rfl | (exfalso; omega) | (split <;> first | rfl | (exfalso; omega)))
  · rcases read_cases f he y hy with ⟨n, b, k1, k2, k3⟩ | ⟨k1, k2, k3⟩
    · rw [h1, k1]
      simp only [Ieee.Datum.order]
      have := hinf k3
      rw [h2, cmp_int]
      congr 1
      unfold sg
      cases ngB f x <;> cases ngB f y <;> simp only [Bool.false_eq_true, if_false, if_true]
      all_goals (split <;> first | rfl | (exfalso; omega) | (split <;> first | rfl | (exfalso; omega)))
    · rw [h1, k1]
      simp only [Ieee.Datum.order]
      rw [h2, k2, cmp_int]
      have hp : 0 < rungV f f.infRung := by
        have : 0 < f.infRung := by have := binade_pos f; omega
        have := rungV_lt f this
        omega
      congr 1
      unfold sg
      cases ngB f x <;> cases ngB f y <;> simp only [Bool.false_eq_true, if_false, if_true]
      all_goals (first | rfl | (simp; done) | (rw [cmp_nat]; simp; done) | (rw [if_neg (by omega), if_pos rfl]; rfl) | (rw [if_pos (by omega)]; rfl) | (rw [if_neg (by omega), if_neg (by omega)]; rfl))

/-! ### The two kinds -/
theorem nan_rg (k : FloatKind) (x : Nat) : nanB k x = decide (k.format.infRung < rg k.format x) := read_nan_iff k x
theorem order_words (k : FloatKind) {x y : Nat} (hx : nanB k x = false) (hy : nanB k y = false) : k.format.order x y = some (compare (srung k.format x) (srung k.format y)) := by
  rw [nan_rg] at hx hy
  exact order_srung _ (by cases k <;> decide) (by simpa using hx) (by simpa using hy)
theorem order_nan (k : FloatKind) {x y : Nat} (h : nanB k x = true ∨ nanB k y = true) : k.format.order x y = none := by
  unfold Ieee.Format.order
  rcases h with h | h
  · obtain ⟨s, f, e⟩ := nan_form h
    rw [e, order_nan_left]
  · obtain ⟨s, f, e⟩ := nan_form h
    rw [e, order_nan_right]
/-- A comparison of numbers, by their signed rungs. -/
theorem fcmp_num (k : FloatKind) {x y : Nat} (hx : nanB k x = false) (hy : nanB k y = false) :
    fcmp .eql k x y = decide (srung k.format x = srung k.format y) ∧ fcmp .neq k x y = !decide (srung k.format x = srung k.format y) ∧ fcmp .lss k x y = decide (srung k.format x < srung k.format y) ∧
    fcmp .leq k x y = decide (srung k.format x ≤ srung k.format y) ∧ fcmp .gtr k x y = decide (srung k.format y < srung k.format x) ∧ fcmp .geq k x y = decide (srung k.format y ≤ srung k.format x) := by
  simp only [fcmp, order_words k hx hy, cmp_int]
  rcases Int.lt_trichotomy (srung k.format x) (srung k.format y) with h | h | h
  · rw [if_pos h, decide_eq_false (by omega : ¬ srung k.format x = srung k.format y), decide_eq_true h, decide_eq_true (by omega : srung k.format x ≤ srung k.format y), decide_eq_false (by omega : ¬ srung k.format y < srung k.format x), decide_eq_false (by omega : ¬ srung k.format y ≤ srung k.format x)]
    exact ⟨rfl, rfl, rfl, rfl, rfl, rfl⟩
  · rw [if_neg (by omega), if_pos h, decide_eq_true h, decide_eq_false (by omega : ¬ srung k.format x < srung k.format y), decide_eq_true (by omega : srung k.format x ≤ srung k.format y), decide_eq_false (by omega : ¬ srung k.format y < srung k.format x), decide_eq_true (by omega : srung k.format y ≤ srung k.format x)]
    exact ⟨rfl, rfl, rfl, rfl, rfl, rfl⟩
  · rw [if_neg (by omega), if_neg (by omega), decide_eq_false (by omega : ¬ srung k.format x = srung k.format y), decide_eq_false (by omega : ¬ srung k.format x < srung k.format y), decide_eq_false (by omega : ¬ srung k.format x ≤ srung k.format y), decide_eq_true h, decide_eq_true (by omega : srung k.format y ≤ srung k.format x)]
    exact ⟨rfl, rfl, rfl, rfl, rfl, rfl⟩
theorem fcmp_nan (k : FloatKind) {x y : Nat} (h : nanB k x = true ∨ nanB k y = true) :
    fcmp .eql k x y = false ∧ fcmp .neq k x y = true ∧ fcmp .lss k x y = false ∧ fcmp .leq k x y = false ∧ fcmp .gtr k x y = false ∧ fcmp .geq k x y = false := by
  simp only [fcmp, order_nan k h]
  refine ⟨?_, ?_, ?_, ?_, ?_, ?_⟩ <;> rfl
theorem neq_self (k : FloatKind) (x : Nat) : fcmp .neq k x x = nanB k x := by
  cases h : nanB k x with
  | true => exact (fcmp_nan k (.inl h)).2.1
  | false => rw [(fcmp_num k h h).2.1]; simp

/-! ### The sign of a float32, seen as a float64 -/
theorem write_word (f : Ieee.Format) (neg : Bool) (m : Nat) (e : Int) : ∃ r, r ≤ f.infRung ∧ f.nearest neg m e = f.word neg r := by
  unfold Ieee.Format.nearest
  by_cases h : m = 0
  · rw [if_pos h]; exact ⟨0, Nat.zero_le _, rfl⟩
  · rw [if_neg h]; exact ⟨_, Nat.min_le_right _ _, rfl⟩
theorem read_neg (f : Ieee.Format) (x : Nat) : (f.read x).neg = ngB f x := by
  unfold Ieee.Format.read ngB
  simp only
  split
  · rfl
  · split
    · rfl
    · split <;> rfl
theorem up_word {x : Nat} (h : nanB .f32 x = false) : ∃ r, r ≤ Ieee.double.infRung ∧ fcvV .f32 .f64 x = Ieee.double.word (ngB Ieee.single x) r := by
  obtain ⟨r, hr⟩ := fcv_up x
  have hv : fcvV .f32 .f64 x = r := by unfold fcvV; rw [hr]; rfl
  rw [hv]
  have hneg := read_neg Ieee.single x
  unfold fcv at hr
  rw [h] at hr
  simp only [Bool.false_eq_true, if_false] at hr
  unfold floatToFloatBits at hr
  rw [if_neg (by intro h; cases h)] at hr
  split at hr
  · cases hr
  · rename_i s hd
    have hd : Ieee.single.read x = .infinity s := hd
    rw [hd] at hneg
    cases hr
    exact ⟨_, Nat.le_refl _, by rw [← hneg]; rfl⟩
  · rename_i s m e hd
    have hd : Ieee.single.read x = .number s m e := hd
    rw [hd] at hneg
    split at hr
    · cases hr
    · cases hr
      obtain ⟨r, h1, h2⟩ := write_word Ieee.double s m e
      exact ⟨r, h1, by rw [← hneg]; exact h2⟩
theorem up_nan {x : Nat} (h : nanB .f32 x = false) : nanB .f64 (fcvV .f32 .f64 x) = false := by
  obtain ⟨r, h1, h2⟩ := up_word h
  rw [h2]
  exact nanB_word .f64 _ h1
theorem up_sign {x : Nat} (h : nanB .f32 x = false) : decide (IntKind.i64.wrap (Int.ofNat (fcvV .f32 .f64 x)) < 0) = ngB Ieee.single x := by
  obtain ⟨r, h1, h2⟩ := up_word h
  rw [h2]
  have hi : Ieee.double.infRung = 9218868437227405312 := by decide
  have hw : Ieee.double.signWeight = 9223372036854775808 := by decide
  rw [hi] at h1
  unfold Ieee.Format.word
  rw [hw]
  cases ngB Ieee.single x
  · simp only [Bool.false_eq_true, if_false]
    refine decide_eq_false ?_
    simp [IntKind.wrap, IntKind.min, IntKind.max, IntKind.bits, IntKind.signed]
    omega
  · simp only [if_true]
    refine decide_eq_true ?_
    simp [IntKind.wrap, IntKind.min, IntKind.max, IntKind.bits, IntKind.signed]
    omega

theorem word_parts {x : Nat} (h : x < 2 ^ 32) : x = (if ngB Ieee.single x then 2147483648 else 0) + rg Ieee.single x ∧ rg Ieee.single x < 2147483648 := by
  have hw : Ieee.single.signWeight = 2147483648 := by decide
  unfold ngB rg
  rw [hw]
  have h32 : (2 : Nat) ^ 32 = 4294967296 := by decide
  rw [h32] at h
  refine ⟨?_, by omega⟩
  by_cases hb : x / 2147483648 % 2 = 1
  · simp [hb]; omega
  · have : x / 2147483648 % 2 = 0 := by omega
    simp [this]; omega
/-- Numbers that are equal and of one sign are one word. -/
theorem same_word {x y : Nat} (hx : x < 2 ^ 32) (hy : y < 2 ^ 32) : (srung Ieee.single x = srung Ieee.single y ∧ ngB Ieee.single x = ngB Ieee.single y) ↔ x = y := by
  constructor
  · rintro ⟨h1, h2⟩
    obtain ⟨e1, _⟩ := word_parts hx
    obtain ⟨e2, _⟩ := word_parts hy
    unfold srung sg at h1
    rw [h2] at h1 e1
    have : rg Ieee.single x = rg Ieee.single y := by
      cases hn : ngB Ieee.single y <;> rw [hn] at h1 <;> simp at h1 <;> omega
    exact e1.trans ((congrArg _ this).trans e2.symm)
  · rintro rfl; exact ⟨rfl, rfl⟩
end Go.Rf
