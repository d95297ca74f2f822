import Derived.Test.YtcbldlfdjabeaaaA1
import Derived.IntWalk
import Derived.ProofKit
import Derived.Deep.Slices
import Derived.Below
/-
  The order of floats, told by whole numbers.
-/
set_option linter.unusedVariables false
set_option linter.unusedSimpArgs false
namespace Go.Rf
open Go

def rungV (f : Ieee.Format) (r : Nat) : Nat := if r < f.binade then r else (f.binade + r % f.binade) * 2 ^ (r / f.binade - 1)
theorem binade_pos (f : Ieee.Format) : 0 < f.binade := Nat.two_pow_pos _

theorem rungV_lt (f : Ieee.Format) {r s : Nat} (h : r < s) : rungV f r < rungV f s := by
  have hb := binade_pos f
  unfold rungV
  by_cases h1 : r < f.binade
  · rw [if_pos h1]
    by_cases h2 : s < f.binade
    · rw [if_pos h2]; exact h
    · rw [if_neg h2]
      have : f.binade + s % f.binade ≤ (f.binade + s % f.binade) * 2 ^ (s / f.binade - 1) := Nat.le_mul_of_pos_right _ (Nat.two_pow_pos _)
      omega
  · rw [if_neg h1, if_neg (by omega)]
    have hr := Nat.div_add_mod r f.binade
    have hs := Nat.div_add_mod s f.binade
    have hrm := Nat.mod_lt r hb
    have hsm := Nat.mod_lt s hb
    have hq : 1 ≤ r / f.binade := (Nat.le_div_iff_mul_le hb).2 (by omega)
    have hle : r / f.binade ≤ s / f.binade := Nat.div_le_div_right (Nat.le_of_lt h)
    rcases Nat.lt_or_ge (r / f.binade) (s / f.binade) with hlt | hge
    · have h3 : (f.binade + r % f.binade) * 2 ^ (r / f.binade - 1) < (2 * f.binade) * 2 ^ (r / f.binade - 1) := Nat.mul_lt_mul_of_pos_right (by omega) (Nat.two_pow_pos _)
      have h4 : (2 * f.binade) * 2 ^ (r / f.binade - 1) = f.binade * 2 ^ (r / f.binade) := by
        obtain ⟨q, hq'⟩ : ∃ q, r / f.binade = q + 1 := ⟨r / f.binade - 1, by omega⟩
        rw [hq', Nat.add_sub_cancel, Nat.pow_succ, Nat.mul_comm 2 f.binade, Nat.mul_assoc, Nat.mul_comm 2]
      have h5 : f.binade * 2 ^ (r / f.binade) ≤ f.binade * 2 ^ (s / f.binade - 1) := Nat.mul_le_mul_left _ (Nat.pow_le_pow_right (by decide) (by omega))
      have h6 : f.binade * 2 ^ (s / f.binade - 1) ≤ (f.binade + s % f.binade) * 2 ^ (s / f.binade - 1) := Nat.mul_le_mul_right _ (by omega)
      omega
    · have he : r / f.binade = s / f.binade := by omega
      rw [he] at hr ⊢
      exact Nat.mul_lt_mul_of_pos_right (by omega) (Nat.two_pow_pos _)

def ngB (f : Ieee.Format) (x : Nat) : Bool := x / f.signWeight % 2 == 1
def rg (f : Ieee.Format) (x : Nat) : Nat := x % f.signWeight
def sg (neg : Bool) (n : Nat) : Int := if neg then -(n : Int) else n
def srung (f : Ieee.Format) (x : Nat) : Int := sg (ngB f x) (rg f x)

theorem cmp_int (x y : Int) : compare x y = if x < y then .lt else if x = y then .eq else .gt := rfl
theorem cmp_nat (x y : Nat) : compare x y = if x < y then .lt else if x = y then .eq else .gt := rfl
theorem cmp_scale (x y : Int) {k : Int} (hk : 0 < k) : compare (x * k) (y * k) = compare x y := by
  rw [cmp_int, cmp_int]
  have h1 : x * k < y * k ↔ x < y := ⟨fun h => Int.lt_of_mul_lt_mul_right h (Int.le_of_lt hk), fun h => Int.mul_lt_mul_of_pos_right h hk⟩
  have h2 : x * k = y * k ↔ x = y := ⟨fun h => Int.eq_of_mul_eq_mul_right (by omega) h, fun h => by rw [h]⟩
  simp only [h1, h2]
theorem cmp_sg (f : Ieee.Format) (s t : Bool) (a b : Nat) : compare (sg s (rungV f a)) (sg t (rungV f b)) = compare (sg s a) (sg t b) := by
  have mono : ∀ {a b : Nat}, a < b → rungV f a < rungV f b := fun h => rungV_lt f h
  have zero : rungV f 0 = 0 := by unfold rungV; rw [if_pos (binade_pos f)]
  have pos : ∀ {a : Nat}, 0 < a → 0 < rungV f a := fun h => by have := mono h; rw [zero] at this; exact this
  have key : ∀ (a b : Nat), (rungV f a < rungV f b ↔ a < b) ∧ (rungV f a = rungV f b ↔ a = b) := by
    intro a b
    rcases Nat.lt_trichotomy a b with h | rfl | h
    · have := mono h; omega
    · simp
    · have := mono h; omega
  have hz : ∀ a, rungV f a = 0 ↔ a = 0 := by
    intro a
    have := (key a 0).2
    rw [zero] at this
    exact this
  rw [cmp_int, cmp_int]
  obtain ⟨k1, k2⟩ := key a b
  obtain ⟨k3, k4⟩ := key b a
  have za := hz a
  have zb := hz b
  unfold sg
  cases s <;> cases t <;> simp only [Bool.false_eq_true, if_false, if_true]
  all_goals
    split <;> split <;> first | rfl | (exfalso; omega) | (split <;> first | rfl | (exfalso; omega) | (split <;> first | rfl | (exfalso; omega))) | skip
  all_goals
    first | rfl | (exfalso; omega) | (split <;> first | rfl | (exfalso; omega))

theorem signed_sg (s : Bool) (m u : Nat) : Ieee.signed s m u = sg s (m * 2 ^ u) := by
  unfold Ieee.signed sg
  rw [Nat.shiftLeft_eq]

theorem read_cases (f : Ieee.Format) (he : 0 < 2 ^ f.exponentBits - 1) (x : Nat) (h : rg f x ≤ f.infRung) :
    (∃ m a, f.read x = .number (ngB f x) m (f.leastPlace + (a : Nat)) ∧ m * 2 ^ a = rungV f (rg f x) ∧ rg f x < f.infRung) ∨ (f.read x = .infinity (ngB f x) ∧ rg f x = f.infRung ∧ f.binade ≤ f.infRung) := by
  unfold Ieee.Format.read
  by_cases h1 : x % f.signWeight < f.binade
  · simp only [if_pos h1]
    by_cases h2 : rg f x < f.infRung
    · left
      exact ⟨x % f.signWeight, 0, by simp [ngB], by unfold rungV rg; rw [if_pos h1]; simp, h2⟩
    · have : rg f x = f.infRung := by omega
      exfalso
      have hr : x % f.signWeight = f.infRung := this
      rw [hr] at h1
      unfold Ieee.Format.infRung at h1
      have hb := binade_pos f
      have := Nat.le_mul_of_pos_left f.binade he
      omega
  · simp only [if_neg h1]
    by_cases h2 : x % f.signWeight < f.infRung
    · left
      simp only [if_pos h2]
      exact ⟨_, _, rfl, by unfold rungV rg; rw [if_neg h1], h2⟩
    · have h3 : x % f.signWeight = f.infRung := by unfold rg at h; omega
      right
      simp only [if_neg h2, if_pos h3]
      exact ⟨rfl, h3, by omega⟩

theorem sg_scale (s : Bool) (n k : Nat) : sg s (n * k) = sg s n * k := by
  unfold sg
  cases s
  · simp
  · simp [Int.neg_mul]

theorem order_srung (f : Ieee.Format) (he : 0 < 2 ^ f.exponentBits - 1) {x y : Nat} (hx : rg f x ≤ f.infRung) (hy : rg f y ≤ f.infRung) : f.order x y = some (compare (srung f x) (srung f y)) := by
  unfold Ieee.Format.order srung
  rw [← cmp_sg f]
  have hinf : ∀ {r : Nat}, r < f.infRung → rungV f r < rungV f f.infRung := fun h => rungV_lt f h
  have h0 : ∀ r, 0 ≤ (rungV f r : Int) := fun r => Int.natCast_nonneg _
  rcases read_cases f he x hx with ⟨m, a, h1, h2, h3⟩ | ⟨h1, h2, h3⟩
  · rcases read_cases f he y hy with ⟨n, b, k1, k2, k3⟩ | ⟨k1, k2, k3⟩
    · rw [h1, k1]
      simp only [Ieee.Datum.order]
      rw [signed_sg, signed_sg]
      congr 1
      have hk : (0 : Int) < ((2 ^ (min a b) : Nat) : Int) := by exact_mod_cast Nat.two_pow_pos _
      rw [← cmp_scale _ _ hk, ← sg_scale, ← sg_scale]
      have e1 : m * 2 ^ (f.leastPlace + (a : Int) - min (f.leastPlace + (a : Int)) (f.leastPlace + (b : Int))).toNat * 2 ^ min a b = rungV f (rg f x) := by
        rw [Nat.mul_assoc, ← Nat.pow_add, ← h2]
        congr 2
        omega
      have e2 : n * 2 ^ (f.leastPlace + (b : Int) - min (f.leastPlace + (a : Int)) (f.leastPlace + (b : Int))).toNat * 2 ^ min a b = rungV f (rg f y) := by
        rw [Nat.mul_assoc, ← Nat.pow_add, ← k2]
        congr 2
        omega
      rw [e1, e2]
    · rw [h1, k1]
      simp only [Ieee.Datum.order]
      have := hinf h3
      rw [k2, cmp_int]
      congr 1
      unfold sg
      cases ngB f x <;> cases ngB f y <;> simp only [Bool.false_eq_true, if_false, if_true]
      all_goals (split <;> first | rfl | (exfalso; omega) | (split <;> first | rfl | (exfalso; omega)))
  · rcases read_cases f he y hy with ⟨n, b, k1, k2, k3⟩ | ⟨k1, k2, k3⟩
    · rw [h1, k1]
      simp only [Ieee.Datum.order]
      have := hinf k3
      rw [h2, cmp_int]
      congr 1
      unfold sg
      cases ngB f x <;> cases ngB f y <;> simp only [Bool.false_eq_true, if_false, if_true]
      all_goals (split <;> first | rfl | (exfalso; omega) | (split <;> first | rfl | (exfalso; omega)))
    · rw [h1, k1]
      simp only [Ieee.Datum.order]
      rw [h2, k2, cmp_int]
      have hp : 0 < rungV f f.infRung := by
        have : 0 < f.infRung := by have := binade_pos f; omega
        have := rungV_lt f this
        omega
      congr 1
      unfold sg
      cases ngB f x <;> cases ngB f y <;> simp only [Bool.false_eq_true, if_false, if_true]
      all_goals (first | rfl | (simp; done) | (rw [cmp_nat]; simp; done) | (rw [if_neg (by omega), if_pos rfl]; rfl) | (rw [if_pos (by omega)]; rfl) | (rw [if_neg (by omega), if_neg (by omega)]; rfl))

/-! ### The two kinds -/
theorem nan_rg (k : FloatKind) (x : Nat) : nanB k x = decide (k.format.infRung < rg k.format x) := read_nan_iff k x
theorem order_words (k : FloatKind) {x y : Nat} (hx : nanB k x = false) (hy : nanB k y = false) : k.format.order x y = some (compare (srung k.format x) (srung k.format y)) := by
  rw [nan_rg] at hx hy
  exact order_srung _ (by cases k <;> decide) (by simpa using hx) (by simpa using hy)
theorem order_nan (k : FloatKind) {x y : Nat} (h : nanB k x = true ∨ nanB k y = true) : k.format.order x y = none := by
  unfold Ieee.Format.order
  rcases h with h | h
  · obtain ⟨s, f, e⟩ := nan_form h
    rw [e, order_nan_left]
  · obtain ⟨s, f, e⟩ := nan_form h
    rw [e, order_nan_right]
theorem fcmp_num (k : FloatKind) {x y : Nat} (hx : nanB k x = false) (hy : nanB k y = false) :
    fcmp .eql k x y = decide (srung k.format x = srung k.format y) ∧ fcmp .neq k x y = !decide (srung k.format x = srung k.format y) ∧ fcmp .lss k x y = decide (srung k.format x < srung k.format y) ∧
    fcmp .leq k x y = decide (srung k.format x ≤ srung k.format y) ∧ fcmp .gtr k x y = decide (srung k.format y < srung k.format x) ∧ fcmp .geq k x y = decide (srung k.format y ≤ srung k.format x) := by
  simp only [fcmp, order_words k hx hy, cmp_int]
  rcases Int.lt_trichotomy (srung k.format x) (srung k.format y) with h | h | h
  · rw [if_pos h, decide_eq_false (by omega : ¬ srung k.format x = srung k.format y), decide_eq_true h, decide_eq_true (by omega : srung k.format x ≤ srung k.format y), decide_eq_false (by omega : ¬ srung k.format y < srung k.format x), decide_eq_false (by omega : ¬ srung k.format y ≤ srung k.format x)]
    exact ⟨rfl, rfl, rfl, rfl, rfl, rfl⟩
  · rw [if_neg (by omega), if_pos h, decide_eq_true h, decide_eq_false (by omega : ¬ srung k.format x < srung k.format y), decide_eq_true (by omega : srung k.format x ≤ srung k.format y), decide_eq_false (by omega : ¬ srung k.format y < srung k.format x), decide_eq_true (by omega : srung k.format y ≤ srung k.format x)]
    exact ⟨rfl, rfl, rfl, rfl, rfl, rfl⟩
  · rw [if_neg (by omega), if_neg (by omega), decide_eq_false (by omega : ¬ srung k.format x = srung k.format y), decide_eq_false (by omega : ¬ srung k.format x < srung k.format y), decide_eq_false (by omega : ¬ srung k.format x ≤ srung k.format y), decide_eq_true h, decide_eq_true (by omega : srung k.format y ≤ srung k.format x)]
    exact ⟨rfl, rfl, rfl, rfl, rfl, rfl⟩
theorem fcmp_nan (k : FloatKind) {x y : Nat} (h : nanB k x = true ∨ nanB k y = true) :
    fcmp .eql k x y = false ∧ fcmp .neq k x y = true ∧ fcmp .lss k x y = false ∧ fcmp .leq k x y = false ∧ fcmp .gtr k x y = false ∧ fcmp .geq k x y = false := by
  simp only [fcmp, order_nan k h]
  refine ⟨?_, ?_, ?_, ?_, ?_, ?_⟩ <;> rfl
theorem neq_self (k : FloatKind) (x : Nat) : fcmp .neq k x x = nanB k x := by
  cases h : nanB k x with
  | true => exact (fcmp_nan k (.inl h)).2.1
  | false => rw [(fcmp_num k h h).2.1]; simp

/-! ### The sign of a float32, seen as a float64 -/
theorem write_word (f : Ieee.Format) (neg : Bool) (m : Nat) (e : Int) : ∃ r, r ≤ f.infRung ∧ f.nearest neg m e = f.word neg r := by
  unfold Ieee.Format.nearest
  by_cases h : m = 0
  · rw [if_pos h]; exact ⟨0, Nat.zero_le _, rfl⟩
  · rw [if_neg h]; exact ⟨_, Nat.min_le_right _ _, rfl⟩
theorem read_neg (f : Ieee.Format) (x : Nat) : (f.read x).neg = ngB f x := by
  unfold Ieee.Format.read ngB
  simp only
  split
  · rfl
  · split
    · rfl
    · split <;> rfl
theorem up_word {x : Nat} (h : nanB .f32 x = false) : ∃ r, r ≤ Ieee.double.infRung ∧ fcvV .f32 .f64 x = Ieee.double.word (ngB Ieee.single x) r := by
  obtain ⟨r, hr⟩ := fcv_up x
  have hv : fcvV .f32 .f64 x = r := by unfold fcvV; rw [hr]; rfl
  rw [hv]
  have hneg := read_neg Ieee.single x
  unfold fcv at hr
  rw [h] at hr
  simp only [Bool.false_eq_true, if_false] at hr
  unfold floatToFloatBits at hr
  rw [if_neg (by intro h; cases h)] at hr
  split at hr
  · cases hr
  · rename_i s hd
    have hd : Ieee.single.read x = .infinity s := hd
    rw [hd] at hneg
    cases hr
    exact ⟨_, Nat.le_refl _, by rw [← hneg]; rfl⟩
  · rename_i s m e hd
    have hd : Ieee.single.read x = .number s m e := hd
    rw [hd] at hneg
    split at hr
    · cases hr
    · cases hr
      obtain ⟨r, h1, h2⟩ := write_word Ieee.double s m e
      exact ⟨r, h1, by rw [← hneg]; exact h2⟩
theorem up_nan {x : Nat} (h : nanB .f32 x = false) : nanB .f64 (fcvV .f32 .f64 x) = false := by
  obtain ⟨r, h1, h2⟩ := up_word h
  rw [h2]
  exact nanB_word .f64 _ h1
theorem up_sign {x : Nat} (h : nanB .f32 x = false) : decide (IntKind.i64.wrap (Int.ofNat (fcvV .f32 .f64 x)) < 0) = ngB Ieee.single x := by
  obtain ⟨r, h1, h2⟩ := up_word h
  rw [h2]
  have hi : Ieee.double.infRung = 9218868437227405312 := by decide
  have hw : Ieee.double.signWeight = 9223372036854775808 := by decide
  rw [hi] at h1
  unfold Ieee.Format.word
  rw [hw]
  cases ngB Ieee.single x
  · simp only [Bool.false_eq_true, if_false]
    refine decide_eq_false ?_
    simp [IntKind.wrap, IntKind.bits, IntKind.signed]
    omega
  · simp only [if_true]
    refine decide_eq_true ?_
    simp [IntKind.wrap, IntKind.bits, IntKind.signed]
    omega

theorem word_parts {x : Nat} (h : x < 2 ^ 32) : x = (if ngB Ieee.single x then 2147483648 else 0) + rg Ieee.single x ∧ rg Ieee.single x < 2147483648 := by
  have hw : Ieee.single.signWeight = 2147483648 := by decide
  unfold ngB rg
  rw [hw]
  have h32 : (2 : Nat) ^ 32 = 4294967296 := by decide
  rw [h32] at h
  refine ⟨?_, by omega⟩
  by_cases hb : x / 2147483648 % 2 = 1
  · simp [hb]; omega
  · have : x / 2147483648 % 2 = 0 := by omega
    simp [this]; omega
theorem same_word {x y : Nat} (hx : x < 2 ^ 32) (hy : y < 2 ^ 32) : (srung Ieee.single x = srung Ieee.single y ∧ ngB Ieee.single x = ngB Ieee.single y) ↔ x = y := by
  constructor
  · rintro ⟨h1, h2⟩
    obtain ⟨e1, _⟩ := word_parts hx
    obtain ⟨e2, _⟩ := word_parts hy
    unfold srung sg at h1
    rw [h2] at h1 e1
    have : rg Ieee.single x = rg Ieee.single y := by
      cases hn : ngB Ieee.single y <;> rw [hn] at h1 <;> simp at h1 <;> omega
    exact e1.trans ((congrArg _ this).trans e2.symm)
  · rintro rfl; exact ⟨rfl, rfl⟩
end Go.Rf

/-
  Facts of float arithmetic: what is written hangs on the value alone; products and sums commute; a half.
-/
set_option linter.unusedVariables false
set_option linter.unusedSimpArgs false
namespace Go.Rf
open Go

theorem log2_mul_pow {m : Nat} (k : Nat) (h : m ≠ 0) : (m * 2 ^ k).log2 = m.log2 + k := by
  have h0 : m * 2 ^ k ≠ 0 := Nat.mul_ne_zero h (Nat.ne_of_gt (Nat.two_pow_pos k))
  refine (Nat.log2_eq_iff h0).2 ⟨?_, ?_⟩
  · rw [Nat.pow_add]; exact Nat.mul_le_mul_right _ (Nat.log2_self_le h)
  · rw [show m.log2 + k + 1 = (m.log2 + 1) + k by omega, Nat.pow_add]
    exact Nat.mul_lt_mul_of_pos_right Nat.lt_log2_self (Nat.two_pow_pos k)

theorem cut_exact (neg : Bool) (n d : Nat) (h : n ≠ 0) : Ieee.Toward.even.cut neg (n * 2 ^ d) d = n := by
  unfold Ieee.Toward.cut
  have hm : min d ((n * 2 ^ d).log2 + 2) = d := by rw [log2_mul_pow d h]; omega
  rw [hm, Nat.one_shiftLeft]
  dsimp only
  have hp := Nat.two_pow_pos d
  rw [Nat.mul_div_cancel _ hp, Nat.mul_mod_left]
  have e1 : decide (2 ^ d < 2 * 0) = false := decide_eq_false (by omega)
  have e2 : ((2 ^ d == 2 * 0) : Bool) = false := by simp
  simp [e2]
theorem cut_scale (neg : Bool) (n d k : Nat) (h : n ≠ 0) : Ieee.Toward.even.cut neg (n * 2 ^ k) (d + k) = Ieee.Toward.even.cut neg n d := by
  unfold Ieee.Toward.cut
  have hm : min (d + k) ((n * 2 ^ k).log2 + 2) = min d (n.log2 + 2) + k := by rw [log2_mul_pow k h]; omega
  rw [hm, Nat.one_shiftLeft, Nat.one_shiftLeft, Nat.pow_add]
  dsimp only
  have hp := Nat.two_pow_pos k
  rw [Nat.mul_div_mul_right _ _ hp, Nat.mul_mod_mul_right]
  generalize min d (n.log2 + 2) = q
  have e1 : (2 ^ q * 2 ^ k < 2 * (n % 2 ^ q * 2 ^ k)) ↔ (2 ^ q < 2 * (n % 2 ^ q)) := by
    rw [← Nat.mul_assoc]
    exact Nat.mul_lt_mul_right hp
  have e2 : (2 ^ q * 2 ^ k = 2 * (n % 2 ^ q * 2 ^ k)) ↔ (2 ^ q = 2 * (n % 2 ^ q)) := by
    rw [← Nat.mul_assoc]
    exact Nat.mul_left_inj (Nat.ne_of_gt hp)
  simp only [e1]
  have e3 : ((2 ^ q * 2 ^ k == 2 * (n % 2 ^ q * 2 ^ k)) : Bool) = (2 ^ q == 2 * (n % 2 ^ q)) := by
    rw [Bool.eq_iff_iff]; simp only [beq_iff_eq]; exact e2
  rw [e3]

theorem nearest_scale (f : Ieee.Format) (neg : Bool) (m k : Nat) (place : Int) : f.nearest neg (m * 2 ^ k) place = f.nearest neg m (place + k) := by
  unfold Ieee.Format.nearest
  by_cases h : m = 0
  · subst h; simp
  · have h0 : m * 2 ^ k ≠ 0 := Nat.mul_ne_zero h (Nat.ne_of_gt (Nat.two_pow_pos k))
    rw [if_neg h, if_neg h0, log2_mul_pow k h]
    have hl : place + ((m.log2 + k : Nat) : Int) - f.fractionBits = place + (k : Int) + (m.log2 : Int) - f.fractionBits := by omega
    rw [hl]
    generalize max (place + (k : Int) + (m.log2 : Int) - f.fractionBits) f.leastPlace = l
    dsimp only
    congr 3
    rcases Int.le_total l place with h1 | h1
    · obtain ⟨a, ha⟩ := Int.eq_ofNat_of_zero_le (show 0 ≤ place - l by omega)
      have e1 : (place - l).toNat = a := by omega
      have e2 : (l - place).toNat = 0 := by omega
      have e3 : (place + k - l).toNat = a + k := by omega
      have e4 : (l - (place + k)).toNat = 0 := by omega
      rw [e1, e2, e3, e4, Nat.shiftLeft_eq, Nat.shiftLeft_eq, Nat.pow_add, Nat.mul_assoc, Nat.mul_comm (2 ^ k)]
    · rcases Int.le_total l (place + k) with h2 | h2
      · obtain ⟨a, ha⟩ := Int.eq_ofNat_of_zero_le (show 0 ≤ place + k - l by omega)
        obtain ⟨d, hd⟩ := Int.eq_ofNat_of_zero_le (show 0 ≤ l - place by omega)
        have e1 : (place - l).toNat = 0 := by omega
        have e2 : (l - place).toNat = d := by omega
        have e3 : (place + k - l).toNat = a := by omega
        have e4 : (l - (place + k)).toNat = 0 := by omega
        have hk : k = a + d := by omega
        rw [e1, e2, e3, e4, Nat.shiftLeft_eq, Nat.shiftLeft_eq, hk, Nat.pow_add, Nat.pow_zero, Nat.mul_one, ← Nat.mul_assoc]
        have hne : m * 2 ^ a ≠ 0 := Nat.mul_ne_zero h (Nat.ne_of_gt (Nat.two_pow_pos a))
        rw [cut_exact neg _ d hne]
        have := cut_exact neg (m * 2 ^ a) 0 hne
        simpa using this.symm
      · obtain ⟨d, hd⟩ := Int.eq_ofNat_of_zero_le (show 0 ≤ l - (place + k) by omega)
        have e1 : (place - l).toNat = 0 := by omega
        have e2 : (l - place).toNat = d + k := by omega
        have e3 : (place + k - l).toNat = 0 := by omega
        have e4 : (l - (place + k)).toNat = d := by omega
        rw [e1, e2, e3, e4, Nat.shiftLeft_eq, Nat.shiftLeft_eq, Nat.pow_zero, Nat.mul_one, Nat.mul_one]
        exact cut_scale neg m d k h

/-! ### What is read -/
theorem read_number {k : FloatKind} {x : Nat} {s : Bool} {m : Nat} {e : Int} (h : k.format.read x = .number s m e) : m < 2 ^ (k.format.fractionBits + 1) := by
  have hb : k.format.binade = 2 ^ k.format.fractionBits := rfl
  have h2 : 2 ^ (k.format.fractionBits + 1) = 2 ^ k.format.fractionBits + 2 ^ k.format.fractionBits := by rw [Nat.pow_succ]; omega
  unfold Ieee.Format.read at h
  simp only at h
  split at h
  · cases h
    rename_i hr
    rw [hb] at hr
    omega
  · split at h
    · cases h
      have := Nat.mod_lt (x % k.format.signWeight) (show 0 < k.format.binade by rw [hb]; exact Nat.two_pow_pos _)
      omega
    · split at h <;> cases h

theorem fop_mul_comm (k : FloatKind) (x y : Nat) : fop .mul k x y = fop .mul k y x := by
  unfold fop floatBits Ieee.Format.mul
  simp only
  congr 2
  cases k.format.read x <;> cases k.format.read y <;> simp only [Ieee.Datum.product, Bool.xor_comm, Nat.mul_comm, Int.add_comm]
theorem fop_add_comm (k : FloatKind) (x y : Nat) : fop .add k x y = fop .add k y x := by
  unfold fop floatBits Ieee.Format.add
  simp only
  congr 2
  cases k.format.read x <;> cases k.format.read y <;> simp only [Ieee.Datum.sum]
  · rename_i s m i t n j
    rw [Int.min_comm, Int.add_comm, Bool.and_comm]
  · rename_i s t
    by_cases e : s = t
    · subst e; rfl
    · rw [if_neg e, if_neg (fun q => e q.symm)]

theorem half_eq (x : Nat) : fop .quo .f32 x 1073741824 = fop .mul .f32 1056964608 x := by
  have r2 : FloatKind.f32.format.read 1073741824 = .number false 8388608 (-22) := by decide +kernel
  have rh : FloatKind.f32.format.read 1056964608 = .number false 8388608 (-24) := by decide +kernel
  unfold fop floatBits Ieee.Format.mul Ieee.Format.div
  simp only
  rw [r2, rh]
  congr 1
  cases hx : FloatKind.f32.format.read x with
  | nan s f => rfl
  | infinity s => simp [Ieee.Datum.quotient, Ieee.Datum.product]
  | number s m i =>
    have hm := read_number hx
    have hfb : FloatKind.f32.format.fractionBits = 23 := rfl
    rw [hfb] at hm
    simp only [Ieee.Datum.quotient, Ieee.Datum.product, hfb]
    rw [if_neg (by decide)]
    simp only [Option.map_some, Option.some.injEq, Ieee.Format.write]
    have hlog : Nat.log2 8388608 = 23 := by decide +kernel
    rw [hlog]
    by_cases h0 : m = 0
    · subst h0
      simp [Ieee.Format.nearest]
    · have hl : m.log2 < 24 := (Nat.log2_lt h0).2 hm
      obtain ⟨q, hq⟩ : ∃ q, 23 + 2 + 23 - m.log2 = q + 23 := ⟨25 - m.log2, by omega⟩
      rw [hq]
      have e1 : m <<< (q + 23) = m * 2 ^ q * 8388608 := by rw [Nat.shiftLeft_eq, Nat.pow_add, ← Nat.mul_assoc]
      rw [e1, Nat.mul_div_cancel _ (by decide), Nat.mul_mod_left]
      have e2 : 2 * (m * 2 ^ q) + ((0 : Nat) != 0).toNat = m * 2 ^ (q + 1) := by
        rw [Nat.pow_succ, Nat.mul_comm (2 ^ q) 2, ← Nat.mul_assoc, ← Nat.mul_assoc, Nat.mul_comm m 2]; rfl
      have e3 : 8388608 * m = m * 2 ^ 23 := by omega
      rw [e2, nearest_scale, e3, nearest_scale]
      have : i - (-22) - ((q + 23 : Nat) : Int) - 1 + ((q + 1 : Nat) : Int) = -24 + i + ((23 : Nat) : Int) := by omega
      rw [this]
      simp
end Go.Rf

/-
  Rounding keeps order: bounds of what float operations give.
-/
set_option linter.unusedVariables false
set_option linter.unusedSimpArgs false
namespace Go.Rf
open Go

/-! ### Rounding -/
theorem cut_le (neg : Bool) {n t d : Nat} (h : n ≤ t * 2 ^ d) : Ieee.Toward.even.cut neg n d ≤ t := by
  unfold Ieee.Toward.cut
  rw [Nat.one_shiftLeft]
  dsimp only
  rcases Nat.le_total d (n.log2 + 2) with hd | hd
  · rw [Nat.min_eq_left hd]
    have hp := Nat.two_pow_pos d
    rcases Nat.lt_or_ge n (t * 2 ^ d) with hlt | hge
    · have h1 : n / 2 ^ d < t := (Nat.div_lt_iff_lt_mul hp).2 hlt
      have h2 : ∀ b : Bool, b.toNat ≤ 1 := by intro b; cases b <;> decide
      have := h2 (decide (2 ^ d < 2 * (n % 2 ^ d)) || 2 ^ d == 2 * (n % 2 ^ d) && n / 2 ^ d % 2 == 1)
      omega
    · obtain rfl : n = t * 2 ^ d := by omega
      rw [Nat.mul_div_cancel _ hp, Nat.mul_mod_left]
      have e2 : ((2 ^ d == 2 * 0) : Bool) = false := by simp
      simp [e2]
  · rw [Nat.min_eq_right hd]
    have h0 : n < 2 ^ (n.log2 + 1) := Nat.lt_log2_self
    have h1 : 2 ^ (n.log2 + 2) = 2 * 2 ^ (n.log2 + 1) := by rw [Nat.pow_succ]; omega
    rw [h1, Nat.div_eq_of_lt (by omega), Nat.mod_eq_of_lt (by omega)]
    have e1 : decide (2 * 2 ^ (n.log2 + 1) < 2 * n) = false := decide_eq_false (by omega)
    have e2 : (2 * 2 ^ (n.log2 + 1) == 2 * n) = false := by simp; omega
    rw [e1, e2]
    simp
theorem le_cut (neg : Bool) {n t d : Nat} (h : t * 2 ^ d ≤ n) : t ≤ Ieee.Toward.even.cut neg n d := by
  unfold Ieee.Toward.cut
  rw [Nat.one_shiftLeft]
  dsimp only
  rcases Nat.le_total d (n.log2 + 2) with hd | hd
  · rw [Nat.min_eq_left hd]
    have hp := Nat.two_pow_pos d
    have h1 : t ≤ n / 2 ^ d := (Nat.le_div_iff_mul_le hp).2 h
    omega
  · have h0 : n < 2 ^ (n.log2 + 1) := Nat.lt_log2_self
    have h1 : 2 ^ (n.log2 + 1) ≤ 2 ^ d := Nat.pow_le_pow_right (by decide) (by omega)
    rcases Nat.eq_zero_or_pos t with e | e
    · rw [e]; exact Nat.zero_le _
    · have : 2 ^ d ≤ t * 2 ^ d := Nat.le_mul_of_pos_left _ e
      omega

theorem rungV_zero (f : Ieee.Format) : rungV f 0 = 0 := by unfold rungV; rw [if_pos (binade_pos f)]
theorem rungV_le (f : Ieee.Format) {r s : Nat} (h : r ≤ s) : rungV f r ≤ rungV f s := by
  rcases Nat.lt_or_ge r s with h1 | h1
  · exact Nat.le_of_lt (rungV_lt f h1)
  · obtain rfl : r = s := by omega
    exact Nat.le_refl _
theorem rungV_split (f : Ieee.Format) {d q : Nat} (h1 : d = 0 ∨ f.binade ≤ q) (h2 : q ≤ 2 * f.binade) : rungV f (d * f.binade + q) = q * 2 ^ d := by
  have hb := binade_pos f
  unfold rungV
  rcases Nat.lt_or_ge q f.binade with hq | hq
  · rcases h1 with rfl | h1
    · rw [if_pos (by omega)]; simp
    · omega
  · have hge : ¬ d * f.binade + q < f.binade := by omega
    rw [if_neg hge]
    rcases Nat.lt_or_ge q (2 * f.binade) with hq2 | hq2
    · obtain ⟨e, rfl⟩ : ∃ e, q = f.binade + e := ⟨q - f.binade, by omega⟩
      have e1 : d * f.binade + (f.binade + e) = e + f.binade * (d + 1) := by rw [Nat.mul_add, Nat.mul_comm]; omega
      rw [e1, Nat.add_mul_mod_self_left, Nat.add_mul_div_left _ _ hb, Nat.mod_eq_of_lt (by omega), Nat.div_eq_of_lt (by omega)]
      simp
    · obtain rfl : q = 2 * f.binade := by omega
      have e1 : d * f.binade + 2 * f.binade = f.binade * (d + 2) := by rw [Nat.mul_add, Nat.mul_comm]; omega
      rw [e1, Nat.mul_mod_right, Nat.mul_div_cancel_left _ hb, Nat.add_zero, show d + 2 - 1 = d + 1 by omega, Nat.pow_succ, Nat.mul_comm (2 ^ d) 2, ← Nat.mul_assoc, Nat.mul_comm f.binade 2]

def rnd (f : Ieee.Format) (m : Nat) (place : Int) : Nat := rg f (f.nearest false m place)
theorem word_rg (f : Ieee.Format) (neg : Bool) {r : Nat} (h : r ≤ f.infRung) : rg f (f.word neg r) = r ∧ ngB f (f.word neg r) = neg := by
  have hlt := f.infRung_lt
  unfold rg ngB Ieee.Format.word
  cases neg
  · simp only [Bool.false_eq_true, if_false]
    refine ⟨Nat.mod_eq_of_lt (by omega), ?_⟩
    rw [Nat.div_eq_of_lt (by omega)]; rfl
  · simp only [if_true]
    refine ⟨by rw [Nat.add_mod_left, Nat.mod_eq_of_lt (by omega)], ?_⟩
    rw [Nat.add_div_left _ (by omega), Nat.div_eq_of_lt (by omega)]; rfl
theorem nearest_word (f : Ieee.Format) (neg : Bool) (m : Nat) (place : Int) : f.nearest neg m place = f.word neg (rnd f m place) ∧ rnd f m place ≤ f.infRung := by
  have key : ∀ neg, ∃ r, r ≤ f.infRung ∧ f.nearest neg m place = f.word neg r ∧ f.nearest false m place = f.word false r := by
    intro neg
    unfold Ieee.Format.nearest
    by_cases h : m = 0
    · rw [if_pos h, if_pos h]; exact ⟨0, Nat.zero_le _, rfl, rfl⟩
    · rw [if_neg h, if_neg h]; exact ⟨_, Nat.min_le_right _ _, rfl, rfl⟩
  obtain ⟨r, h1, h2, h3⟩ := key neg
  have : rnd f m place = r := by unfold rnd; rw [h3]; exact (word_rg f false h1).1
  rw [this]
  exact ⟨h2, h1⟩
theorem rnd_zero (f : Ieee.Format) (place : Int) : rnd f 0 place = 0 := by
  unfold rnd Ieee.Format.nearest
  rw [if_pos rfl]
  exact (word_rg f false (Nat.zero_le _)).1
theorem rnd_split (f : Ieee.Format) {m : Nat} (hm : m ≠ 0) (place : Int) : ∃ d q : Nat, rnd f m place = min (d * f.binade + q) f.infRung ∧ (d = 0 ∨ (f.binade ≤ q ∧ ∀ (a b : Nat), place + (b : Int) = f.leastPlace + (d : Int) + a → f.binade * 2 ^ b ≤ m * 2 ^ a)) ∧ q ≤ 2 * f.binade ∧
    ((∃ a : Nat, place = f.leastPlace + (d : Int) + a ∧ q = m * 2 ^ a) ∨ ∃ b : Nat, place + (b : Int) = f.leastPlace + (d : Int) ∧ q = Ieee.Toward.even.cut false m b) := by
  have hr : rnd f m place = min ((max (place + (m.log2 : Int) - f.fractionBits) f.leastPlace - f.leastPlace).toNat * f.binade + Ieee.Toward.even.cut false (m <<< (place - max (place + (m.log2 : Int) - f.fractionBits) f.leastPlace).toNat) (max (place + (m.log2 : Int) - f.fractionBits) f.leastPlace - place).toNat) f.infRung := by
    unfold rnd Ieee.Format.nearest
    rw [if_neg hm]
    exact (word_rg f false (Nat.min_le_right _ _)).1
  have hbin : f.binade = 2 ^ f.fractionBits := rfl
  have hlo : 2 ^ m.log2 ≤ m := Nat.log2_self_le hm
  have hhi : m < 2 ^ (m.log2 + 1) := Nat.lt_log2_self
  rw [hr]
  generalize hl : max (place + (m.log2 : Int) - f.fractionBits) f.leastPlace = l
  have hl1 : f.leastPlace ≤ l := by omega
  have hl2 : place + (m.log2 : Int) - f.fractionBits ≤ l := by omega
  obtain ⟨d, hd⟩ := Int.eq_ofNat_of_zero_le (show 0 ≤ l - f.leastPlace by omega)
  refine ⟨d, Ieee.Toward.even.cut false (m <<< (place - l).toNat) (l - place).toNat, by rw [show (l - f.leastPlace).toNat = d by omega], ?_, ?_, ?_⟩
  · rcases Nat.eq_zero_or_pos d with e | e
    · exact .inl e
    · right
      have hl3 : l = place + (m.log2 : Int) - f.fractionBits := by omega
      have hlead : ∀ (a b : Nat), place + (b : Int) = f.leastPlace + (d : Int) + a → f.binade * 2 ^ b ≤ m * 2 ^ a := by
        intro a b hab
        have hfb : f.fractionBits + b = m.log2 + a := by omega
        rw [hbin, ← Nat.pow_add, hfb, Nat.pow_add]
        exact Nat.mul_le_mul_right _ hlo
      refine ⟨?_, hlead⟩
      rcases Int.le_total l place with h | h
      · have := hlead (place - l).toNat 0 (by omega)
        rw [show (l - place).toNat = 0 by omega, Nat.shiftLeft_eq]
        exact le_cut false (by simpa using this)
      · have := hlead 0 (l - place).toNat (by omega)
        rw [show (place - l).toNat = 0 by omega, Nat.shiftLeft_zero]
        exact le_cut false (by simpa using this)
  · -- q ≤ 2 binade
    have h2 : 2 * f.binade = 2 ^ (f.fractionBits + 1) := by rw [hbin, Nat.pow_succ]; omega
    rw [h2]
    rcases Int.le_total l place with h | h
    · rw [show (l - place).toNat = 0 by omega, Nat.shiftLeft_eq]
      refine cut_le false ?_
      rw [Nat.pow_zero, Nat.mul_one]
      have : m * 2 ^ (place - l).toNat ≤ 2 ^ (m.log2 + 1) * 2 ^ (place - l).toNat := Nat.mul_le_mul_right _ (Nat.le_of_lt hhi)
      rw [← Nat.pow_add] at this
      exact Nat.le_trans this (Nat.pow_le_pow_right (by decide) (by omega))
    · rw [show (place - l).toNat = 0 by omega, Nat.shiftLeft_zero]
      refine cut_le false ?_
      rw [← Nat.pow_add]
      exact Nat.le_trans (Nat.le_of_lt hhi) (Nat.pow_le_pow_right (by decide) (by omega))
  · rcases Int.le_total l place with h | h
    · left
      refine ⟨(place - l).toNat, by omega, ?_⟩
      rw [show (l - place).toNat = 0 by omega, Nat.shiftLeft_eq]
      have hne : m * 2 ^ (place - l).toNat ≠ 0 := Nat.mul_ne_zero hm (Nat.ne_of_gt (Nat.two_pow_pos _))
      have := cut_exact false _ 0 hne
      simpa using this
    · right
      refine ⟨(l - place).toNat, by omega, ?_⟩
      rw [show (place - l).toNat = 0 by omega, Nat.shiftLeft_zero]

theorem rnd_le (f : Ieee.Format) {m r u v : Nat} {place : Int} (hp : place + (v : Int) = f.leastPlace + (u : Int)) (h : m * 2 ^ u ≤ rungV f r * 2 ^ v) : rnd f m place ≤ r := by
  by_cases hm : m = 0
  · subst hm; rw [rnd_zero]; exact Nat.zero_le _
  obtain ⟨d, q, h1, h2, h3, h4⟩ := rnd_split f hm place
  rw [h1]
  refine Nat.le_trans (Nat.min_le_left _ _) ?_
  have hq : d = 0 ∨ f.binade ≤ q := h2.imp id And.left
  have hV := rungV_split f hq h3
  rcases Nat.lt_or_ge r (d * f.binade + q) with hlt | hge
  · exfalso
    -- the value is that of a lower rung
    rcases h4 with ⟨a, ha, rfl⟩ | ⟨b, hb, rfl⟩
    · have hlt' := rungV_lt f hlt
      rw [hV] at hlt'
      have hu : u = v + d + a := by omega
      have : m * 2 ^ u = m * 2 ^ a * 2 ^ d * 2 ^ v := by rw [hu, Nat.pow_add, Nat.pow_add, Nat.mul_comm (2 ^ v), Nat.mul_comm (2 ^ d * 2 ^ v), Nat.mul_assoc, Nat.mul_assoc]
      rw [this] at h
      have := Nat.le_of_mul_le_mul_right h (Nat.two_pow_pos v)
      omega
    · have hub : u + b = v + d := by omega
      have hmd : m * 2 ^ d ≤ rungV f r * 2 ^ b := by
        have := Nat.mul_le_mul_right (2 ^ b) h
        rw [Nat.mul_assoc, ← Nat.pow_add, hub, Nat.pow_add, Nat.mul_comm (2 ^ v), ← Nat.mul_assoc, Nat.mul_assoc (rungV f r), Nat.mul_comm (2 ^ v), ← Nat.mul_assoc] at this
        exact Nat.le_of_mul_le_mul_right this (Nat.two_pow_pos v)
      generalize hq' : Ieee.Toward.even.cut false m b = q at *
      by_cases hk : d ≠ 0 ∧ q = f.binade
      · have hlead := (h2.resolve_left hk.1).2 0 b (by omega)
        simp only [Nat.pow_zero, Nat.mul_one] at hlead
        have hlt' := rungV_lt f hlt
        rw [hV, hk.2] at hlt'
        have h5 : rungV f r * 2 ^ b < f.binade * 2 ^ d * 2 ^ b := Nat.mul_lt_mul_of_pos_right hlt' (Nat.two_pow_pos b)
        have h6 : f.binade * 2 ^ b * 2 ^ d ≤ m * 2 ^ d := Nat.mul_le_mul_right _ hlead
        have h7 : f.binade * 2 ^ d * 2 ^ b = f.binade * 2 ^ b * 2 ^ d := by rw [Nat.mul_assoc, Nat.mul_assoc, Nat.mul_comm (2 ^ d)]
        omega
      · have hq0 : 0 < q := by
          rcases Nat.eq_zero_or_pos q with e | e
          · rcases hq with e' | e'
            · rw [e, e'] at hlt; omega
            · have := binade_pos f; omega
          · exact e
        have hV' : rungV f (d * f.binade + (q - 1)) = (q - 1) * 2 ^ d := rungV_split f (by rcases hq with e' | e'; exact .inl e'; by_cases hd0 : d = 0; exact .inl hd0; right; have : q ≠ f.binade := fun e => hk ⟨hd0, e⟩; omega) (by omega)
        have hle := rungV_le f (show r ≤ d * f.binade + (q - 1) by omega)
        rw [hV'] at hle
        have h5 : m * 2 ^ d ≤ (q - 1) * 2 ^ b * 2 ^ d := by
          refine Nat.le_trans hmd (Nat.le_trans (Nat.mul_le_mul_right _ hle) ?_)
          rw [Nat.mul_assoc, Nat.mul_assoc, Nat.mul_comm (2 ^ d)]
          exact Nat.le_refl _
        have h6 := Nat.le_of_mul_le_mul_right h5 (Nat.two_pow_pos d)
        have := cut_le false h6
        omega
  · exact hge

theorem le_rnd (f : Ieee.Format) {m r u v : Nat} {place : Int} (hr : r ≤ f.infRung) (hp : place + (v : Int) = f.leastPlace + (u : Int)) (h : rungV f r * 2 ^ v ≤ m * 2 ^ u) : r ≤ rnd f m place := by
  by_cases hm : m = 0
  · subst hm
    rw [Nat.zero_mul] at h
    have : rungV f r = 0 := by
      rcases Nat.eq_zero_or_pos (rungV f r) with e | e
      · exact e
      · have := Nat.mul_pos e (Nat.two_pow_pos v); omega
    have : r = 0 := by
      rcases Nat.eq_zero_or_pos r with e | e
      · exact e
      · have := rungV_lt f e; rw [rungV_zero] at this; omega
    omega
  obtain ⟨d, q, h1, h2, h3, h4⟩ := rnd_split f hm place
  rw [h1]
  refine Nat.le_min.2 ⟨?_, hr⟩
  have hq : d = 0 ∨ f.binade ≤ q := h2.imp id And.left
  have hV := rungV_split f hq h3
  rcases Nat.lt_or_ge (d * f.binade + q) r with hlt | hge
  · exfalso
    have hnext : (q + 1) * 2 ^ d ≤ rungV f (d * f.binade + (q + 1)) := by
      rcases Nat.lt_or_ge q (2 * f.binade) with h5 | h5
      · rw [rungV_split f (hq.imp id fun e => by omega) (by omega)]; exact Nat.le_refl _
      · obtain rfl : q = 2 * f.binade := by omega
        have hb := binade_pos f
        have e1 : d * f.binade + (2 * f.binade + 1) = (d + 1) * f.binade + (f.binade + 1) := by rw [Nat.add_mul]; omega
        rw [e1, rungV_split f (.inr (by omega)) (by omega), Nat.pow_succ, Nat.mul_comm (2 ^ d), ← Nat.mul_assoc]
        exact Nat.mul_le_mul_right _ (by omega)
    have hle := Nat.le_trans hnext (rungV_le f (show d * f.binade + (q + 1) ≤ r by omega))
    rcases h4 with ⟨a, ha, rfl⟩ | ⟨b, hb, rfl⟩
    · have hu : u = v + d + a := by omega
      have e : m * 2 ^ u = m * 2 ^ a * 2 ^ d * 2 ^ v := by rw [hu, Nat.pow_add, Nat.pow_add, Nat.mul_comm (2 ^ v), Nat.mul_comm (2 ^ d * 2 ^ v), Nat.mul_assoc, Nat.mul_assoc]
      rw [e] at h
      have h6 := Nat.le_of_mul_le_mul_right h (Nat.two_pow_pos v)
      have h7 : (m * 2 ^ a + 1) * 2 ^ d ≤ m * 2 ^ a * 2 ^ d := Nat.le_trans hle h6
      have := Nat.le_of_mul_le_mul_right h7 (Nat.two_pow_pos d)
      omega
    · have hub : u + b = v + d := by omega
      have hmd : rungV f r * 2 ^ b ≤ m * 2 ^ d := by
        have := Nat.mul_le_mul_right (2 ^ b) h
        rw [Nat.mul_assoc m, ← Nat.pow_add, hub, Nat.pow_add, Nat.mul_comm (2 ^ v), ← Nat.mul_assoc, Nat.mul_assoc (rungV f r), Nat.mul_comm (2 ^ v), ← Nat.mul_assoc] at this
        exact Nat.le_of_mul_le_mul_right this (Nat.two_pow_pos v)
      generalize hq' : Ieee.Toward.even.cut false m b = q at *
      have h5 : (q + 1) * 2 ^ b * 2 ^ d ≤ m * 2 ^ d := by
        refine Nat.le_trans ?_ hmd
        rw [Nat.mul_assoc, Nat.mul_comm (2 ^ b), ← Nat.mul_assoc]
        exact Nat.mul_le_mul_right _ hle
      have h6 := Nat.le_of_mul_le_mul_right h5 (Nat.two_pow_pos d)
      have := le_cut false h6
      omega
  · exact hge
end Go.Rf

/-
  Plain helpers: numbers that do not wrap, loops that go over a row, rows.
-/
set_option linter.unusedVariables false
set_option linter.unusedSimpArgs false
namespace Go.Rf
open Go

theorem br_if {α : Type} (c : Bool) (a b : α) : br c a b = if c = true then a else b := by cases c <;> rfl
theorem grd_true {R : Type} (x : Option R) : grd true x = x := rfl
theorem grd_if {R : Type} (c : Bool) (x : Option R) : grd c x = if c = true then x else none := by cases c <;> rfl
theorem grd_of {R : Type} {c : Bool} {x : Option R} (h : c = true) : grd c x = x := by rw [h]; rfl
theorem br_of {α : Type} {c : Bool} {a b : α} (h : c = true) : br c a b = a := by rw [h]; rfl
theorem br_no {α : Type} {c : Bool} {a b : α} (h : c = false) : br c a b = b := by rw [h]; rfl

theorem wrap64 {x : Int} (h1 : -9223372036854775808 ≤ x) (h2 : x ≤ 9223372036854775807) : IntKind.i64.wrap x = x := IntWalk.i64_in x ⟨h1, h2⟩
theorem addI1 {i : Nat} (h : i < 4611686018427387904) : addI .i64 (Int.ofNat i) 1 = Int.ofNat (i + 1) := by
  show IntKind.i64.wrap ((i : Int) + 1) = ((i + 1 : Nat) : Int)
  rw [wrap64 (by omega) (by omega)]
  omega
theorem ltI_t {a b : Int} (h : a < b) : ltI a b = true := decide_eq_true h
theorem ltI_f {a b : Int} (h : ¬ a < b) : ltI a b = false := decide_eq_false h
theorem ltN_t {a b : Nat} (h : a < b) : ltI (Int.ofNat a) (Int.ofNat b) = true := decide_eq_true (by simp; omega)
theorem ltN_f {a b : Nat} (h : b ≤ a) : ltI (Int.ofNat a) (Int.ofNat b) = false := decide_eq_false (by simp; omega)
theorem okIx_t {i n : Nat} (h : i < n) : okIx (Int.ofNat i) n = true := decide_eq_true ⟨by simp, by simp; omega⟩
theorem ix1 (i : Nat) : ixO 0 (Int.ofNat i) 1 = i := by simp [ixO]
theorem gF_get {xs : List Nat} {i : Nat} (h : i < xs.length) : gF xs i = xs[i] := by simp [gF, List.getD_eq_getElem?_getD, h]
theorem pF_all (xs : List Nat) : pF xs 0 (muN xs.length 1) = xs := by simp [pF, muN]
theorem pF_all3 {xs : List Nat} {n : Nat} (h : xs.length = n * 3) : pF xs 0 (muN n 3) = xs := by simp [pF, muN, ← h]
theorem toN_nat (n : Nat) : toN (Int.ofNat n) = n := rfl
theorem big_gt {k : Nat} (h : k < 281474976710656) : k < big := by rw [big_eq]; exact h

theorem scan {α β : Type} {L : Nat → Int → Option (α ⊕ β)} {len : Nat} (p : Nat → Bool) {g : Nat → α} {e : β}
    (hs : ∀ n i, i < len → L (n + 1) (Int.ofNat i) = if p i = true then L n (Int.ofNat (i + 1)) else some (.inl (g i)))
    (he : ∀ n, L (n + 1) (Int.ofNat len) = some (.inr e)) :
    ∀ k i n, i + k = len → k < n → ((∀ j, i ≤ j → j < len → p j = true) ∧ L n (Int.ofNat i) = some (.inr e)) ∨ ∃ j, i ≤ j ∧ j < len ∧ p j = false ∧ L n (Int.ofNat i) = some (.inl (g j))
  | 0, i, n, hk, hn => by
    obtain ⟨n, rfl⟩ : ∃ m, n = m + 1 := ⟨n - 1, by omega⟩
    obtain rfl : i = len := by omega
    exact .inl ⟨fun j h1 h2 => by omega, he n⟩
  | k + 1, i, n, hk, hn => by
    obtain ⟨n, rfl⟩ : ∃ m, n = m + 1 := ⟨n - 1, by omega⟩
    have hi : i < len := by omega
    rw [hs n i hi]
    cases hp : p i with
    | false => exact .inr ⟨i, Nat.le_refl _, hi, hp, by simp⟩
    | true =>
      simp only [if_pos]
      rcases scan p hs he k (i + 1) n (by omega) (by omega) with ⟨h1, h2⟩ | ⟨j, h1, h2, h3, h4⟩
      · refine .inl ⟨fun j h3 h4 => ?_, h2⟩
        by_cases e : j = i
        · rw [e]; exact hp
        · exact h1 j (by omega) h4
      · exact .inr ⟨j, by omega, h2, h3, h4⟩
theorem scan_all {α β : Type} {L : Nat → Int → Option (α ⊕ β)} (xs : List Nat) (p : Nat → Bool) {g : Nat → α} {e : β}
    (hs : ∀ n i, i < xs.length → L (n + 1) (Int.ofNat i) = if p (xs.getD i 0) = true then L n (Int.ofNat (i + 1)) else some (.inl (g i)))
    (he : ∀ n, L (n + 1) (Int.ofNat xs.length) = some (.inr e)) (hl : xs.length < 281474976710656) :
    (xs.all p = true ∧ L big 0 = some (.inr e)) ∨ ∃ j, j < xs.length ∧ xs.all p = false ∧ L big 0 = some (.inl (g j)) := by
  rcases scan (fun i => p (xs.getD i 0)) hs he xs.length 0 big (by omega) (big_gt hl) with ⟨h1, h2⟩ | ⟨j, h1, h2, h3, h4⟩
  · refine .inl ⟨?_, h2⟩
    rw [List.all_eq_true]
    intro x hx
    obtain ⟨i, hi, rfl⟩ := List.getElem_of_mem hx
    have := h1 i (Nat.zero_le _) hi
    simpa [List.getD_eq_getElem?_getD, hi] using this
  · refine .inr ⟨j, h2, ?_, h4⟩
    rw [List.all_eq_false]
    refine ⟨xs[j], List.getElem_mem _, ?_⟩
    simpa [List.getD_eq_getElem?_getD, h2] using h3
theorem folds {σ ρ : Type} {L : Nat → Int → σ → Option ρ} {len : Nat} (f : Nat → σ → σ) {e : σ → ρ}
    (hs : ∀ n i s, i < len → L (n + 1) (Int.ofNat i) s = L n (Int.ofNat (i + 1)) (f i s)) (he : ∀ n s, L (n + 1) (Int.ofNat len) s = some (e s)) :
    ∀ k i n s, i + k = len → k < n → L n (Int.ofNat i) s = some (e ((List.range' i k).foldl (fun s j => f j s) s))
  | 0, i, n, s, hk, hn => by
    obtain ⟨n, rfl⟩ : ∃ m, n = m + 1 := ⟨n - 1, by omega⟩
    obtain rfl : i = len := by omega
    exact he n s
  | k + 1, i, n, s, hk, hn => by
    obtain ⟨n, rfl⟩ : ∃ m, n = m + 1 := ⟨n - 1, by omega⟩
    rw [hs n i s (by omega), folds f hs he k (i + 1) n (f i s) (by omega) (by omega)]
    simp [List.range'_succ]
theorem copy_fold (xs : List Nat) : ∀ (k i : Nat) (ys : List Nat), i + k = xs.length → ys.length = xs.length → (List.range' i k).foldl (fun s j => s.set j (xs.getD j 0)) ys = ys.take i ++ xs.drop i
  | 0, i, ys, hk, hl => by
    obtain rfl : i = xs.length := by omega
    simp [← hl]
  | k + 1, i, ys, hk, hl => by
    have hi : i < xs.length := by omega
    simp only [List.range'_succ, List.foldl_cons]
    rw [copy_fold xs k (i + 1) _ (by omega) (by simpa using hl)]
    have e1 : (ys.set i (xs.getD i 0)).take (i + 1) = ys.take i ++ [xs.getD i 0] := by
      refine List.ext_getElem (by simp; omega) fun j h1 h2 => ?_
      simp only [List.getElem_take, List.getElem_set, List.getElem_append, List.length_take]
      by_cases e : i = j
      · subst e; simp; intro h; omega
      · rw [if_neg e, dif_pos (by simp at h2; omega)]
    have e2 : xs.drop i = xs.getD i 0 :: xs.drop (i + 1) := by
      rw [List.drop_eq_getElem_cons hi]
      simp [List.getD_eq_getElem?_getD, hi]
    rw [e1, e2]
    simp
end Go.Rf

/-
  What sums, products and conversions of finite numbers are: the sign, and the rung of the exact value.
-/
set_option linter.unusedVariables false
set_option linter.unusedSimpArgs false
namespace Go.Rf
open Go

def mg (k : FloatKind) (x : Nat) : Nat := rungV k.format (rg k.format x)
def nn (k : FloatKind) (x : Nat) : Bool := ngB k.format x
def vl (k : FloatKind) (x : Nat) : Int := sg (nn k x) (mg k x)
def finW (k : FloatKind) (x : Nat) : Bool := decide (rg k.format x < k.format.infRung)
def lp (k : FloatKind) : Int := k.format.leastPlace

theorem he_pos (k : FloatKind) : 0 < 2 ^ k.format.exponentBits - 1 := by cases k <;> decide
theorem finW_lt {k : FloatKind} {x : Nat} (h : finW k x = true) : rg k.format x < k.format.infRung := of_decide_eq_true h
theorem finW_nan {k : FloatKind} {x : Nat} (h : finW k x = true) : nanB k x = false := by
  rw [nan_rg]; exact decide_eq_false (by have := finW_lt h; omega)
theorem fin_read {k : FloatKind} {x : Nat} (h : finW k x = true) : ∃ m a : Nat, k.format.read x = .number (nn k x) m (lp k + a) ∧ m * 2 ^ a = mg k x := by
  have hl := finW_lt h
  rcases read_cases k.format (he_pos k) x (Nat.le_of_lt hl) with ⟨m, a, h1, h2, _⟩ | ⟨_, h2, _⟩
  · exact ⟨m, a, h1, h2⟩
  · omega
theorem inf_read {k : FloatKind} {x : Nat} (h : nanB k x = false) (hf : finW k x = false) : k.format.read x = .infinity (nn k x) := by
  rw [nan_rg] at h
  have h1 := of_decide_eq_false h
  have h2 := of_decide_eq_false hf
  rcases read_cases k.format (he_pos k) x (by omega) with ⟨m, a, _, _, h3⟩ | ⟨h3, _⟩
  · omega
  · exact h3
theorem rnd_scale (f : Ieee.Format) (m k : Nat) (place : Int) : rnd f (m * 2 ^ k) place = rnd f m (place + k) := by
  unfold rnd; rw [nearest_scale]
theorem rnd_inf (f : Ieee.Format) (m : Nat) (place : Int) : rnd f m place ≤ f.infRung := (nearest_word f false m place).2

theorem mul_word {k : FloatKind} {x y : Nat} (hx : finW k x = true) (hy : finW k y = true) :
    fop .mul k x y = k.format.word (nn k x ^^ nn k y) (rnd k.format (mg k x * mg k y) (lp k + lp k)) := by
  obtain ⟨m, a, h1, h2⟩ := fin_read hx
  obtain ⟨n, b, h3, h4⟩ := fin_read hy
  unfold fop floatBits Ieee.Format.mul
  simp only [h1, h3, Ieee.Datum.product, Option.map_some, Option.getD_some, Ieee.Format.write]
  rw [(nearest_word _ _ _ _).1]
  congr 1
  rw [← h2, ← h4, show m * 2 ^ a * (n * 2 ^ b) = m * n * 2 ^ (a + b) by rw [Nat.pow_add, Nat.mul_mul_mul_comm], rnd_scale]
  congr 1
  omega
def sgn0 (s t : Bool) (v : Int) : Bool := if v = 0 then s && t else decide (v < 0)
theorem sg_natAbs (v : Int) : (v * (2 : Int) ^ 0).natAbs = v.natAbs := by simp
theorem add_word {k : FloatKind} {x y : Nat} (hx : finW k x = true) (hy : finW k y = true) :
    fop .add k x y = k.format.word (sgn0 (nn k x) (nn k y) (vl k x + vl k y)) (rnd k.format (vl k x + vl k y).natAbs (lp k)) := by
  obtain ⟨m, a, h1, h2⟩ := fin_read hx
  obtain ⟨n, b, h3, h4⟩ := fin_read hy
  unfold fop floatBits Ieee.Format.add
  simp only [h1, h3, Ieee.Datum.sum, Option.map_some, Option.getD_some, Ieee.Format.write]
  obtain ⟨c, hc⟩ : ∃ c : Nat, min (lp k + (a : Int)) (lp k + (b : Int)) = lp k + (c : Int) ∧ c ≤ a ∧ c ≤ b := ⟨min a b, by omega, by omega, by omega⟩
  obtain ⟨hc, ha, hb⟩ := hc
  rw [hc, show (lp k + (a : Int) - (lp k + (c : Int))).toNat = a - c by omega, show (lp k + (b : Int) - (lp k + (c : Int))).toNat = b - c by omega, signed_sg, signed_sg]
  have ev : vl k x + vl k y = (sg (nn k x) (m * 2 ^ (a - c)) + sg (nn k y) (n * 2 ^ (b - c))) * ((2 ^ c : Nat) : Int) := by
    have e1 : mg k x = m * 2 ^ (a - c) * 2 ^ c := by rw [← h2, Nat.mul_assoc, ← Nat.pow_add, show a - c + c = a by omega]
    have e2 : mg k y = n * 2 ^ (b - c) * 2 ^ c := by rw [← h4, Nat.mul_assoc, ← Nat.pow_add, show b - c + c = b by omega]
    unfold vl
    rw [e1, e2, sg_scale _ (m * 2 ^ (a - c)), sg_scale _ (n * 2 ^ (b - c)), Int.add_mul]
  generalize sg (nn k x) (m * 2 ^ (a - c)) + sg (nn k y) (n * 2 ^ (b - c)) = T at ev
  rw [(nearest_word _ _ _ _).1, ev]
  have hp : (0 : Int) < ((2 ^ c : Nat) : Int) := Int.natCast_pos.2 (Nat.two_pow_pos c)
  congr 1
  · unfold sgn0
    by_cases hT : T = 0
    · subst hT; simp
    · rw [if_neg hT, if_neg (Int.mul_ne_zero hT (Int.ne_of_gt hp))]
      by_cases hl : T < 0
      · rw [decide_eq_true hl, decide_eq_true (Int.mul_neg_of_neg_of_pos hl hp)]
      · rw [decide_eq_false hl, decide_eq_false (by have := Int.mul_nonneg (show 0 ≤ T by omega) (Int.le_of_lt hp); omega)]
  · rw [Int.natAbs_mul, Int.natAbs_natCast, rnd_scale]
theorem opp_read {k : FloatKind} {y : Nat} (hy : finW k y = true) : ∃ n b : Nat, (k.format.read y).opposite = .number (!nn k y) n (lp k + b) ∧ n * 2 ^ b = mg k y := by
  obtain ⟨n, b, h3, h4⟩ := fin_read hy
  exact ⟨n, b, by rw [h3]; rfl, h4⟩
theorem sg_not (s : Bool) (n : Nat) : sg (!s) n = - sg s n := by cases s <;> simp [sg]
theorem sub_word {k : FloatKind} {x y : Nat} (hx : finW k x = true) (hy : finW k y = true) :
    fop .sub k x y = k.format.word (sgn0 (nn k x) (!nn k y) (vl k x - vl k y)) (rnd k.format (vl k x - vl k y).natAbs (lp k)) := by
  obtain ⟨m, a, h1, h2⟩ := fin_read hx
  obtain ⟨n, b, h3, h4⟩ := opp_read hy
  unfold fop floatBits Ieee.Format.sub
  simp only [h1, h3, Ieee.Datum.sum, Option.map_some, Option.getD_some, Ieee.Format.write]
  obtain ⟨c, hc⟩ : ∃ c : Nat, min (lp k + (a : Int)) (lp k + (b : Int)) = lp k + (c : Int) ∧ c ≤ a ∧ c ≤ b := ⟨min a b, by omega, by omega, by omega⟩
  obtain ⟨hc, ha, hb⟩ := hc
  rw [hc, show (lp k + (a : Int) - (lp k + (c : Int))).toNat = a - c by omega, show (lp k + (b : Int) - (lp k + (c : Int))).toNat = b - c by omega, signed_sg, signed_sg]
  have ev : vl k x - vl k y = (sg (nn k x) (m * 2 ^ (a - c)) + sg (!nn k y) (n * 2 ^ (b - c))) * ((2 ^ c : Nat) : Int) := by
    have e1 : mg k x = m * 2 ^ (a - c) * 2 ^ c := by rw [← h2, Nat.mul_assoc, ← Nat.pow_add, show a - c + c = a by omega]
    have e2 : mg k y = n * 2 ^ (b - c) * 2 ^ c := by rw [← h4, Nat.mul_assoc, ← Nat.pow_add, show b - c + c = b by omega]
    unfold vl
    rw [e1, e2, sg_scale _ (m * 2 ^ (a - c)), sg_scale _ (n * 2 ^ (b - c)), Int.add_mul, sg_not, Int.neg_mul, Int.sub_eq_add_neg]
  generalize sg (nn k x) (m * 2 ^ (a - c)) + sg (!nn k y) (n * 2 ^ (b - c)) = T at ev
  rw [(nearest_word _ _ _ _).1, ev]
  have hp : (0 : Int) < ((2 ^ c : Nat) : Int) := Int.natCast_pos.2 (Nat.two_pow_pos c)
  congr 1
  · unfold sgn0
    by_cases hT : T = 0
    · subst hT; simp
    · rw [if_neg hT, if_neg (Int.mul_ne_zero hT (Int.ne_of_gt hp))]
      by_cases hl : T < 0
      · rw [decide_eq_true hl, decide_eq_true (Int.mul_neg_of_neg_of_pos hl hp)]
      · rw [decide_eq_false hl, decide_eq_false (by have := Int.mul_nonneg (show 0 ≤ T by omega) (Int.le_of_lt hp); omega)]
  · rw [Int.natAbs_mul, Int.natAbs_natCast, rnd_scale]
theorem up_eq {x : Nat} (hx : finW .f32 x = true) : fcvV .f32 .f64 x = Ieee.double.word (nn .f32 x) (rnd Ieee.double (mg .f32 x) (lp .f32)) := by
  obtain ⟨m, a, h1, h2⟩ := fin_read hx
  have hn : nanB .f32 x = false := finW_nan hx
  obtain ⟨r, hr⟩ := fcv_up x
  have hv : fcvV .f32 .f64 x = r := by unfold fcvV; rw [hr]; rfl
  rw [hv]
  unfold fcv at hr
  rw [hn] at hr
  simp only [Bool.false_eq_true, if_false] at hr
  unfold floatToFloatBits at hr
  rw [if_neg (by intro h; cases h)] at hr
  have hd : FloatKind.f32.decode x = .number (nn .f32 x) m (lp .f32 + a) := h1
  rw [hd] at hr
  simp only at hr
  split at hr
  · cases hr
  · cases hr
    show Ieee.double.nearest _ _ _ = _
    rw [(nearest_word _ _ _ _).1, ← h2, rnd_scale]
theorem fOI_eq (k : FloatKind) (n : Int) : floatOfInt k n = k.format.word (decide (n < 0)) (rnd k.format n.natAbs 0) := by
  show k.format.nearest _ _ _ = _
  rw [(nearest_word _ _ _ _).1]

theorem rg_word (k : FloatKind) (s : Bool) {r : Nat} (h : r ≤ k.format.infRung) : rg k.format (k.format.word s r) = r := (word_rg _ s h).1
theorem nn_word (k : FloatKind) (s : Bool) {r : Nat} (h : r ≤ k.format.infRung) : nn k (k.format.word s r) = s := (word_rg _ s h).2
theorem finW_of {k : FloatKind} {x c : Nat} (h : rg k.format x ≤ c) (hc : c < k.format.infRung) : finW k x = true := decide_eq_true (by omega)
theorem mg_le {k : FloatKind} {x c : Nat} (h : rg k.format x ≤ c) : mg k x ≤ rungV k.format c := rungV_le _ h

/-! ### Bounds by rungs -/
theorem mul_rg {k : FloatKind} {x y a b c N : Nat} (hx : rg k.format x ≤ a) (hy : rg k.format y ≤ b) (ha : a < k.format.infRung) (hb : b < k.format.infRung)
    (hN : lp k + (N : Int) = 0) (h : rungV k.format a * rungV k.format b ≤ rungV k.format c * 2 ^ N) : rg k.format (fop .mul k x y) ≤ c := by
  rw [mul_word (finW_of hx ha) (finW_of hy hb), rg_word _ _ (rnd_inf _ _ _)]
  refine rnd_le k.format (u := 0) (v := N) (by unfold lp at *; omega) ?_
  simp only [Nat.pow_zero, Nat.mul_one]
  exact Nat.le_trans (Nat.mul_le_mul (mg_le hx) (mg_le hy)) h
theorem sg_abs (s : Bool) (n : Nat) : (sg s n).natAbs = n := by cases s <;> simp [sg]
theorem add_rg {k : FloatKind} {x y a b c : Nat} (hx : rg k.format x ≤ a) (hy : rg k.format y ≤ b) (ha : a < k.format.infRung) (hb : b < k.format.infRung)
    (h : rungV k.format a + rungV k.format b ≤ rungV k.format c) : rg k.format (fop .add k x y) ≤ c := by
  rw [add_word (finW_of hx ha) (finW_of hy hb), rg_word _ _ (rnd_inf _ _ _)]
  refine rnd_le k.format (u := 0) (v := 0) (by unfold lp; omega) ?_
  simp only [Nat.pow_zero, Nat.mul_one]
  have h1 : (vl k x + vl k y).natAbs ≤ mg k x + mg k y := by
    have := Int.natAbs_add_le (vl k x) (vl k y)
    unfold vl at this ⊢
    rw [sg_abs, sg_abs] at this
    exact this
  exact Nat.le_trans h1 (Nat.le_trans (Nat.add_le_add (mg_le hx) (mg_le hy)) h)
theorem sub_rg {k : FloatKind} {x y a b c : Nat} (hx : rg k.format x ≤ a) (hy : rg k.format y ≤ b) (ha : a < k.format.infRung) (hb : b < k.format.infRung)
    (h : rungV k.format a + rungV k.format b ≤ rungV k.format c) : rg k.format (fop .sub k x y) ≤ c := by
  rw [sub_word (finW_of hx ha) (finW_of hy hb), rg_word _ _ (rnd_inf _ _ _)]
  refine rnd_le k.format (u := 0) (v := 0) (by unfold lp; omega) ?_
  simp only [Nat.pow_zero, Nat.mul_one]
  have h1 : (vl k x - vl k y).natAbs ≤ mg k x + mg k y := by
    have := Int.natAbs_sub_le (vl k x) (vl k y)
    unfold vl at this ⊢
    rw [sg_abs, sg_abs] at this
    exact this
  exact Nat.le_trans h1 (Nat.le_trans (Nat.add_le_add (mg_le hx) (mg_le hy)) h)
theorem up_rg {x a c N : Nat} (hx : rg FloatKind.f32.format x ≤ a) (ha : a < FloatKind.f32.format.infRung) (hN : lp .f32 = lp .f64 + (N : Int)) (h : rungV FloatKind.f32.format a * 2 ^ N ≤ rungV FloatKind.f64.format c) : rg FloatKind.f64.format (fcvV .f32 .f64 x) ≤ c := by
  rw [up_eq (finW_of (k := .f32) hx ha)]
  show rg FloatKind.f64.format (FloatKind.f64.format.word _ (rnd FloatKind.f64.format _ _)) ≤ c
  rw [(word_rg FloatKind.f64.format _ (rnd_inf _ _ _)).1]
  refine rnd_le FloatKind.f64.format (u := N) (v := 0) (by unfold lp at *; omega) ?_
  simp only [Nat.pow_zero, Nat.mul_one]
  exact Nat.le_trans (Nat.mul_le_mul_right _ (mg_le (k := .f32) hx)) h
theorem cut_any (way : Ieee.Toward) (neg : Bool) {n t d : Nat} (h : n ≤ t * 2 ^ d) : way.cut neg n d ≤ t := by
  unfold Ieee.Toward.cut
  rw [Nat.one_shiftLeft]
  dsimp only
  have hp : 0 < 2 ^ min d (n.log2 + 2) := Nat.two_pow_pos _
  have hm : ∀ b : Bool, (b = true → n % 2 ^ min d (n.log2 + 2) ≠ 0) → n / 2 ^ min d (n.log2 + 2) + b.toNat ≤ t := by
    intro b hb
    have key : n / 2 ^ min d (n.log2 + 2) + b.toNat ≤ (n + (2 ^ min d (n.log2 + 2) - 1)) / 2 ^ min d (n.log2 + 2) := by
      rw [Nat.le_div_iff_mul_le hp, Nat.add_mul]
      have e := Nat.div_add_mod n (2 ^ min d (n.log2 + 2))
      rw [Nat.mul_comm] at e
      generalize n / 2 ^ min d (n.log2 + 2) * 2 ^ min d (n.log2 + 2) = A at *
      cases b with
      | false => simp; omega
      | true => have := hb rfl; simp; omega
    refine Nat.le_trans key ?_
    rcases Nat.le_total d (n.log2 + 2) with hd | hd
    · rw [Nat.min_eq_left hd] at hp ⊢
      refine Nat.lt_succ_iff.1 ((Nat.div_lt_iff_lt_mul hp).2 ?_)
      rw [Nat.succ_mul]; omega
    · rw [Nat.min_eq_right hd] at hp ⊢
      have hn : n < 2 ^ (n.log2 + 2) := by
        have := Nat.lt_log2_self (n := n)
        rw [Nat.pow_succ]; omega
      rcases Nat.eq_zero_or_pos n with h0 | h0
      · subst h0; rw [Nat.div_eq_of_lt (by omega)]; omega
      · have ht : 0 < t := by
          rcases Nat.eq_zero_or_pos t with q | q
          · subst q; omega
          · exact q
        refine Nat.le_trans (Nat.lt_succ_iff.1 ((Nat.div_lt_iff_lt_mul hp).2 ?_)) ht
        omega
  refine hm _ ?_
  intro hb hr
  rw [hr] at hb
  cases way <;> simp at hb
theorem integral_le {k : FloatKind} (way : Ieee.Toward) {x B N : Nat} (hx : finW k x = true) (hN : lp k + (N : Int) = 0) (hB : mg k x ≤ B * 2 ^ N) :
    ∃ w, (k.format.read x).integral way = .number (nn k x) w 0 ∧ w ≤ B := by
  obtain ⟨m, a, h1, h2⟩ := fin_read hx
  rw [h1]
  refine ⟨_, rfl, cut_any way _ ?_⟩
  rw [Nat.shiftLeft_eq]
  rcases Nat.le_total a N with h | h
  · rw [show (lp k + (a : Int)).toNat = 0 by omega, show (-(lp k + (a : Int))).toNat = N - a by omega, Nat.pow_zero, Nat.mul_one]
    refine Nat.le_of_mul_le_mul_right (c := 2 ^ a) ?_ (Nat.two_pow_pos a)
    rw [h2, Nat.mul_assoc, ← Nat.pow_add, show N - a + a = N by omega]
    exact hB
  · rw [show (lp k + (a : Int)).toNat = a - N by omega, show (-(lp k + (a : Int))).toNat = 0 by omega, Nat.pow_zero, Nat.mul_one]
    refine Nat.le_of_mul_le_mul_right (c := 2 ^ N) ?_ (Nat.two_pow_pos N)
    rw [Nat.mul_assoc, ← Nat.pow_add, show a - N + N = a by omega, h2]
    exact hB
theorem fint_rg (way : Ieee.Toward) {x a B c N : Nat} (hx : rg FloatKind.f64.format x ≤ a) (ha : a < FloatKind.f64.format.infRung) (hN : lp .f64 + (N : Int) = 0) (hB : rungV FloatKind.f64.format a ≤ B * 2 ^ N) (hc : B * 2 ^ N ≤ rungV FloatKind.f64.format c) : rg FloatKind.f64.format (fint way x) ≤ c := by
  have hf : finW .f64 x = true := finW_of (k := .f64) hx ha
  obtain ⟨w, h1, h2⟩ := integral_le way hf hN (Nat.le_trans (mg_le (k := .f64) hx) hB)
  have h1 : (FloatKind.f64.decode x).integral way = .number (nn .f64 x) w 0 := h1
  have e : fint way x = FloatKind.f64.format.nearest (nn .f64 x) w 0 := by
    unfold fint
    rw [finW_nan hf, h1, if_neg (by decide)]
    rfl
  rw [e]
  rw [(nearest_word _ _ _ _).1, (word_rg FloatKind.f64.format _ (rnd_inf _ _ _)).1]
  refine rnd_le FloatKind.f64.format (u := N) (v := 0) (by unfold lp at hN; omega) ?_
  simp only [Nat.pow_zero, Nat.mul_one]
  exact Nat.le_trans (Nat.mul_le_mul_right _ h2) hc
theorem fOI_rg {k : FloatKind} {n : Int} {B c N : Nat} (hn : n.natAbs ≤ B) (hN : lp k + (N : Int) = 0) (h : B * 2 ^ N ≤ rungV k.format c) : rg k.format (floatOfInt k n) ≤ c := by
  rw [fOI_eq, rg_word _ _ (rnd_inf _ _ _)]
  refine rnd_le k.format (u := N) (v := 0) (by unfold lp at hN; omega) ?_
  simp only [Nat.pow_zero, Nat.mul_one]
  exact Nat.le_trans (Nat.mul_le_mul_right _ hn) h
theorem srung_rg {f : Ieee.Format} {x : Nat} {r : Nat} (h1 : -(r : Int) ≤ srung f x) (h2 : srung f x ≤ (r : Int)) : rg f x ≤ r := by
  unfold srung sg at h1 h2
  by_cases hb : ngB f x = true
  · rw [if_pos hb] at h1; omega
  · rw [if_neg hb] at h2; omega
theorem between_rg {k : FloatKind} {x low high r : Nat} (hl : nanB k low = false) (hh : nanB k high = false) (el : srung k.format low = -(r : Int)) (eh : srung k.format high = (r : Int))
    (h1 : fcmp .geq k x low = true) (h2 : fcmp .leq k x high = true) : rg k.format x ≤ r := by
  have hn : nanB k x = false := by
    cases hn : nanB k x with
    | false => rfl
    | true => rw [(fcmp_nan k (.inl hn)).2.2.2.2.2] at h1; cases h1
  rw [(fcmp_num k hn hl).2.2.2.2.2] at h1
  rw [(fcmp_num k hn hh).2.2.2.1] at h2
  have h1 := of_decide_eq_true h1
  have h2 := of_decide_eq_true h2
  exact srung_rg (by omega) (by omega)
theorem f2i_t {k : FloatKind} {j : IntKind} {x a B N : Nat} (hx : rg k.format x ≤ a) (ha : a < k.format.infRung) (hN : lp k + (N : Int) = 0) (hB : rungV k.format a ≤ B * 2 ^ N) (hj : j.min ≤ -(B : Int) ∧ (B : Int) ≤ j.max) :
    f2iB k x j = true ∧ (f2iV k x j).natAbs ≤ B := by
  have hf : finW k x = true := finW_of hx ha
  obtain ⟨w, h1, h2⟩ := integral_le .zero hf hN (Nat.le_trans (mg_le hx) hB)
  have h1 : (k.decode x).integral .zero = .number (nn k x) w 0 := h1
  have e : floatToIntVal k x j = some (sg (nn k x) w) := by
    unfold floatToIntVal Ieee.Datum.toInt
    rw [h1]
    simp only [signed_sg, Nat.pow_zero, Nat.mul_one]
    rw [if_pos]
    cases nn k x <;> simp [sg] <;> omega
  unfold f2iB f2iV
  rw [e, finW_nan hf]
  exact ⟨rfl, by simp [sg_abs, h2]⟩
end Go.Rf

/-
  Quotients by bounds; whole numbers; what a number loses of its whole part; narrowing.
-/
set_option linter.unusedVariables false
set_option linter.unusedSimpArgs false
namespace Go.Rf
open Go

theorem quo_rg {k : FloatKind} {x y A B c N : Nat} (hx : finW k x = true) (hy : finW k y = true) (hA : mg k x ≤ A) (hB : B ≤ mg k y) (hB0 : 0 < B) (hN : lp k + (N : Int) = 0)
    (h : 2 * A * 2 ^ N ≤ rungV k.format c * B) : rg k.format (fop .quo k x y) ≤ c := by
  obtain ⟨m, a, h1, h2⟩ := fin_read hx
  obtain ⟨n, b, h3, h4⟩ := fin_read hy
  have hn : n ≠ 0 := by
    rintro rfl
    rw [Nat.zero_mul] at h4
    omega
  have e : ∃ s, fop .quo k x y = k.format.nearest s (2 * (m <<< (k.format.fractionBits + 2 + n.log2 - m.log2) / n) + ((m <<< (k.format.fractionBits + 2 + n.log2 - m.log2) % n != 0) : Bool).toNat) (lp k + a - (lp k + b) - (k.format.fractionBits + 2 + n.log2 - m.log2 : Nat) - 1) := by
    refine ⟨nn k x ^^ nn k y, ?_⟩
    unfold fop floatBits Ieee.Format.div
    simp only [h1, h3, Ieee.Datum.quotient]
    rw [if_neg hn]
    rfl
  obtain ⟨s, e⟩ := e
  rw [e, (nearest_word _ _ _ _).1, rg_word _ _ (rnd_inf _ _ _)]
  generalize hmore : k.format.fractionBits + 2 + n.log2 - m.log2 = more
  by_cases hm : m = 0
  · subst hm
    simp [rnd_zero]
  · rw [Nat.shiftLeft_eq]
    refine rnd_le k.format (u := N + a) (v := b + more + 1) (by unfold lp at *; omega) ?_
    have hD : n ≤ m * 2 ^ more := by
      have q1 : 2 ^ m.log2 ≤ m := Nat.log2_self_le hm
      have q2 : n < 2 ^ (n.log2 + 1) := Nat.lt_log2_self
      have q3 : 2 ^ (n.log2 + 1) ≤ 2 ^ (m.log2 + more) := Nat.pow_le_pow_right (by omega) (by omega)
      rw [Nat.pow_add 2 m.log2 more] at q3
      have q4 := Nat.mul_le_mul_right (2 ^ more) q1
      omega
    generalize hDD : m * 2 ^ more = D at hD ⊢
    have hP : (2 * (D / n) + ((D % n != 0) : Bool).toNat) * n ≤ 4 * D := by
      have := Nat.div_mul_le_self D n
      have hb : ((D % n != 0) : Bool).toNat ≤ 1 := by cases (D % n != 0) <;> simp
      have : (2 * (D / n) + ((D % n != 0) : Bool).toNat) * n ≤ (2 * (D / n) + 1) * n := Nat.mul_le_mul_right _ (by omega)
      have t : (2 * (D / n) + 1) * n = 2 * (D / n * n) + n := by rw [Nat.add_mul, Nat.one_mul, Nat.mul_assoc]
      omega
    generalize 2 * (D / n) + ((D % n != 0) : Bool).toNat = P at hP ⊢
    have hp : 0 < n * 2 ^ b := Nat.mul_pos (by omega) (Nat.two_pow_pos b)
    refine Nat.le_of_mul_le_mul_right (c := n * 2 ^ b) ?_ hp
    have l1 : P * 2 ^ (N + a) * (n * 2 ^ b) ≤ 4 * D * (2 ^ (N + a) * 2 ^ b) := by
      rw [show P * 2 ^ (N + a) * (n * 2 ^ b) = P * n * (2 ^ (N + a) * 2 ^ b) by simp only [Nat.mul_assoc, Nat.mul_comm, Nat.mul_left_comm]]
      exact Nat.mul_le_mul_right _ hP
    have l2 : 4 * D * (2 ^ (N + a) * 2 ^ b) = 2 * (mg k x) * 2 ^ N * (2 * 2 ^ (b + more)) := by
      rw [← hDD, ← h2, Nat.pow_add, Nat.pow_add]
      rw [show (4 : Nat) = 2 * 2 from rfl]
      simp only [Nat.mul_assoc, Nat.mul_comm, Nat.mul_left_comm]
    have l3 : 2 * (mg k x) * 2 ^ N ≤ rungV k.format c * (n * 2 ^ b) := by
      rw [h4]
      refine Nat.le_trans (Nat.mul_le_mul_right _ (Nat.mul_le_mul_left 2 hA)) (Nat.le_trans h (Nat.mul_le_mul_left _ hB))
    rw [l2] at l1
    refine Nat.le_trans l1 (Nat.le_trans (Nat.mul_le_mul_right _ l3) ?_)
    rw [show 2 * 2 ^ (b + more) = 2 ^ (b + more + 1) by rw [Nat.pow_succ, Nat.mul_comm]]
    rw [Nat.mul_right_comm]
    exact Nat.le_refl _

/-! ### Exact ones -/
theorem rnd_exact (f : Ieee.Format) {m r u v : Nat} {place : Int} (hr : r ≤ f.infRung) (hp : place + (v : Int) = f.leastPlace + (u : Int)) (h : m * 2 ^ u = rungV f r * 2 ^ v) : rnd f m place = r :=
  Nat.le_antisymm (rnd_le f hp (by omega)) (le_rnd f hr hp (by omega))
theorem zero_pow (f : Ieee.Format) (n : Nat) : rungV f 0 = 0 * 2 ^ n := by rw [rungV_zero, Nat.zero_mul]
theorem pow2_le (a b : Nat) (h : a ≤ b) : 2 ^ a ≤ 2 ^ b := Nat.pow_le_pow_right (by omega) h
theorem div_bound (M B n : Nat) (h : M ≤ B * 2 ^ n) : M / 2 ^ n ≤ B := Nat.div_le_of_le_mul (by rw [Nat.mul_comm]; exact h)
theorem nat_rung {w : Nat} (h : w < 9007199254740992) : ∃ r, r < FloatKind.f64.format.infRung ∧ rungV FloatKind.f64.format r = w * 2 ^ 1074 := by
  by_cases h0 : w = 0
  · subst h0
    exact ⟨0, by decide, zero_pow _ 1074⟩
  · have hl : w.log2 ≤ 52 := by
      have := (Nat.log2_lt h0 (k := 53)).2 h
      omega
    have hb : FloatKind.f64.format.binade = 2 ^ 52 := by decide
    have q1 : 2 ^ w.log2 ≤ w := Nat.log2_self_le h0
    have q2 : w < 2 ^ (w.log2 + 1) := Nat.lt_log2_self
    have q3 : w * 2 ^ (52 - w.log2) < 2 ^ 53 := by
      have := Nat.mul_lt_mul_of_pos_right q2 (Nat.two_pow_pos (52 - w.log2))
      rw [← Nat.pow_add, show w.log2 + 1 + (52 - w.log2) = 53 by omega] at this
      exact this
    have q4 : 2 ^ 52 ≤ w * 2 ^ (52 - w.log2) := by
      have := Nat.mul_le_mul_right (2 ^ (52 - w.log2)) q1
      rw [← Nat.pow_add, show w.log2 + (52 - w.log2) = 52 by omega] at this
      exact this
    refine ⟨(1022 + w.log2) * FloatKind.f64.format.binade + w * 2 ^ (52 - w.log2), ?_, ?_⟩
    · have hi : FloatKind.f64.format.infRung = 2047 * 2 ^ 52 := by decide
      rw [hb, hi]
      have : (1022 + w.log2) * 2 ^ 52 ≤ 1074 * 2 ^ 52 := Nat.mul_le_mul_right _ (by omega)
      omega
    · rw [rungV_split _ (.inr (by rw [hb]; exact q4)) (by rw [hb]; omega), Nat.mul_assoc, ← Nat.pow_add]
      congr 2
      omega
theorem mg_word (k : FloatKind) (s : Bool) {r : Nat} (h : r ≤ k.format.infRung) : mg k (k.format.word s r) = rungV k.format r := by unfold mg; rw [rg_word k s h]
theorem fOI_exact {n : Int} (h : n.natAbs < 9007199254740992) : ∃ r, r < FloatKind.f64.format.infRung ∧ floatOfInt .f64 n = FloatKind.f64.format.word (decide (n < 0)) r ∧ rungV FloatKind.f64.format r = n.natAbs * 2 ^ 1074 := by
  obtain ⟨r, h1, h2⟩ := nat_rung h
  refine ⟨r, h1, ?_, h2⟩
  rw [fOI_eq, rnd_exact FloatKind.f64.format (u := 1074) (v := 0) (Nat.le_of_lt h1) (by decide +kernel) (by rw [h2, Nat.pow_zero, Nat.mul_one])]
theorem cut_zero_eq (neg : Bool) (n d : Nat) : Ieee.Toward.zero.cut neg n d = n / 2 ^ d := by
  unfold Ieee.Toward.cut
  rw [Nat.one_shiftLeft]
  show n / 2 ^ min d (n.log2 + 2) + 0 = _
  rw [Nat.add_zero]
  rcases Nat.le_total d (n.log2 + 2) with h | h
  · rw [Nat.min_eq_left h]
  · rw [Nat.min_eq_right h]
    have hn : n < 2 ^ (n.log2 + 2) := by
      have := Nat.lt_log2_self (n := n)
      rw [Nat.pow_succ]; omega
    have h2 : 2 ^ (n.log2 + 2) ≤ 2 ^ d := Nat.pow_le_pow_right (by omega) h
    rw [Nat.div_eq_of_lt hn, Nat.div_eq_of_lt (by omega)]
theorem integral_zero {k : FloatKind} {x N : Nat} (hx : finW k x = true) (hN : lp k + (N : Int) = 0) : (k.format.read x).integral .zero = .number (nn k x) (mg k x / 2 ^ N) 0 := by
  obtain ⟨m, a, h1, h2⟩ := fin_read hx
  rw [h1]
  show Ieee.Datum.number _ (Ieee.Toward.zero.cut _ _ _) 0 = _
  rw [cut_zero_eq, Nat.shiftLeft_eq, ← h2]
  congr 1
  rcases Nat.le_total a N with h | h
  · rw [show (lp k + (a : Int)).toNat = 0 by omega, show (-(lp k + (a : Int))).toNat = N - a by omega, Nat.pow_zero, Nat.mul_one]
    rw [show N = (N - a) + a by omega, Nat.pow_add, Nat.mul_div_mul_right _ _ (Nat.two_pow_pos a)]
    congr 2
    omega
  · rw [show (lp k + (a : Int)).toNat = a - N by omega, show (-(lp k + (a : Int))).toNat = 0 by omega, Nat.pow_zero, Nat.div_one]
    rw [show a = (a - N) + N by omega, Nat.pow_add, ← Nat.mul_assoc, Nat.mul_div_cancel _ (Nat.two_pow_pos N)]
    congr 2
    omega
theorem down_t {x a c N : Nat} (hx : rg FloatKind.f64.format x ≤ a) (ha : a < FloatKind.f64.format.infRung) (hN : lp .f32 = lp .f64 + (N : Int)) (hc : c < FloatKind.f32.format.infRung) (h : rungV FloatKind.f64.format a ≤ rungV FloatKind.f32.format c * 2 ^ N) :
    fcvB .f64 .f32 x = true := by
  have hf : finW .f64 x = true := finW_of hx ha
  obtain ⟨m, e, h1, h2⟩ := fin_read hf
  unfold fcvB fcv
  rw [finW_nan hf]
  simp only [Bool.false_eq_true, if_false]
  unfold floatToFloatBits
  rw [if_neg (by intro h; cases h)]
  have hd : FloatKind.f64.decode x = .number (nn .f64 x) m (lp .f64 + e) := h1
  rw [hd]
  simp only
  have hr : rnd FloatKind.f32.format m (lp .f64 + e) ≤ c := by
    refine rnd_le FloatKind.f32.format (u := e) (v := N) (by unfold lp at *; omega) ?_
    rw [h2]
    exact Nat.le_trans (mg_le hx) h
  have hw : FloatKind.f32.encode (.number (nn .f64 x) m (lp .f64 + e)) = FloatKind.f32.format.word (nn .f64 x) (rnd FloatKind.f32.format m (lp .f64 + e)) := (nearest_word _ _ _ _).1
  rw [hw]
  have hi : (FloatKind.f32.decode (FloatKind.f32.format.word (nn .f64 x) (rnd FloatKind.f32.format m (lp .f64 + e)))).isInfinity = false := read_word _ _ (by omega)
  rw [hi]
  rfl
end Go.Rf

/-
  Numbers less their nearest whole ones: what is left is small.
-/
set_option linter.unusedVariables false
set_option linter.unusedSimpArgs false
namespace Go.Rf
open Go

theorem rungV_succ (f : Ieee.Format) {r : Nat} (h : f.binade ≤ r) : rungV f (r + 1) = rungV f r + 2 ^ (r / f.binade - 1) := by
  have hb := binade_pos f
  have h1 : 1 ≤ r / f.binade := (Nat.le_div_iff_mul_le hb).2 (by omega)
  have hm := Nat.mod_lt r hb
  have hd := Nat.div_add_mod r f.binade
  have e : r = (r / f.binade - 1) * f.binade + (f.binade + r % f.binade) := by
    have : (r / f.binade - 1) * f.binade + f.binade = r / f.binade * f.binade := by
      rw [← Nat.succ_mul]; congr 1; omega
    rw [Nat.mul_comm] at hd
    omega
  have e1 := rungV_split f (d := r / f.binade - 1) (q := f.binade + r % f.binade) (.inr (by omega)) (by omega)
  have e2 := rungV_split f (d := r / f.binade - 1) (q := f.binade + r % f.binade + 1) (.inr (by omega)) (by omega)
  rw [← Nat.add_assoc ((r / f.binade - 1) * f.binade) (f.binade + r % f.binade) 1, ← e] at e2
  rw [← e] at e1
  rw [e1, e2, Nat.add_mul (f.binade + r % f.binade) 1, Nat.one_mul]
theorem cut_none (way : Ieee.Toward) (neg : Bool) (n : Nat) : way.cut neg n 0 = n := by
  unfold Ieee.Toward.cut
  rw [Nat.one_shiftLeft]
  dsimp only
  rw [Nat.zero_min, Nat.pow_zero, Nat.div_one, Nat.mod_one]
  cases way <;> simp
theorem shift_pow (m a n : Nat) (h : n ≤ a) : m * 2 ^ (a - n) * 2 ^ n = m * 2 ^ a := by rw [Nat.mul_assoc, ← Nat.pow_add, Nat.sub_add_cancel h]
theorem enc64 (s : Bool) (m : Nat) (p : Int) : FloatKind.f64.encode (.number s m p) = FloatKind.f64.format.nearest s m p := rfl
theorem fint_whole (way : Ieee.Toward) {y : Nat} (hf : finW .f64 y = true) (h : 4845873199050653696 ≤ rg FloatKind.f64.format y) : vl .f64 (fint way y) = vl .f64 y ∧ finW .f64 (fint way y) = true := by
  obtain ⟨m, a, h1, h2⟩ := fin_read hf
  have hm : m < 2 ^ 53 := by
    have := read_number h1
    exact this
  have hM : 9007199254740992 * 2 ^ 1074 ≤ mg .f64 y := by
    have e : rungV FloatKind.f64.format 4845873199050653696 = 9007199254740992 * 2 ^ 1074 := by decide +kernel
    rw [← e]
    exact rungV_le _ h
  have ha : 1074 ≤ a := by
    rcases Nat.lt_or_ge a 1074 with hlt | hge
    · exfalso
      have q := pow2_le a 1074 (by omega)
      generalize (2 : Nat) ^ 1074 = T at q hM
      have h4 : m * 2 ^ a < 2 ^ 53 * T := Nat.lt_of_lt_of_le (Nat.mul_lt_mul_of_pos_right hm (Nat.two_pow_pos a)) (Nat.mul_le_mul_left _ q)
      rw [h2] at h4
      have h5 : (2 : Nat) ^ 53 = 9007199254740992 := by decide
      rw [h5] at h4
      omega
    · exact hge
  have hlp : lp .f64 = -1074 := by decide +kernel
  have hi : (FloatKind.f64.decode y).integral way = .number (nn .f64 y) (m * 2 ^ (a - 1074)) 0 := by
    have : FloatKind.f64.decode y = .number (nn .f64 y) m (lp .f64 + a) := h1
    rw [this]
    show Ieee.Datum.number _ (way.cut _ _ _) 0 = _
    rw [hlp, show (-1074 + (a : Int)).toNat = a - 1074 by omega, show (-(-1074 + (a : Int))).toNat = 0 by omega, cut_none, Nat.shiftLeft_eq]
  have e : fint way y = FloatKind.f64.format.word (nn .f64 y) (rg FloatKind.f64.format y) := by
    unfold fint
    rw [finW_nan hf, hi, if_neg (by decide), enc64]
    have hr : rnd FloatKind.f64.format (m * 2 ^ (a - 1074)) 0 = rg FloatKind.f64.format y := by
      refine rnd_exact FloatKind.f64.format (u := 1074) (v := 0) (Nat.le_of_lt (finW_lt hf)) ?_ ?_
      · have : FloatKind.f64.format.leastPlace = -1074 := hlp
        rw [this]; omega
      · rw [Nat.pow_zero, Nat.mul_one]; exact (shift_pow m a 1074 ha).trans h2
    rw [(nearest_word _ _ _ _).1, hr]
  have hlt := finW_lt hf
  constructor
  · rw [e]
    unfold vl
    rw [nn_word _ _ (Nat.le_of_lt hlt), mg_word _ _ (Nat.le_of_lt hlt)]
    rfl
  · rw [e]
    exact finW_of (by rw [rg_word _ _ (Nat.le_of_lt hlt)]; exact Nat.le_refl _) hlt
theorem wrap_down {x : Nat} (hx : finW .f64 x = true) (hb : rg FloatKind.f64.format x ≤ 5183643171103440896) :
    nanB .f64 (fop .add .f64 x 4602678819172646912) = false ∧ fcvB .f64 .f32 (fop .sub .f64 x (fint .down (fop .add .f64 x 4602678819172646912))) = true ∧ nanB .f64 (fop .sub .f64 x (fint .down (fop .add .f64 x 4602678819172646912))) = false := by
  rcases Nat.lt_or_ge (rg FloatKind.f64.format x) 4877398396442247168 with hs | hl
  · have g1 : rg FloatKind.f64.format (fop .add .f64 x 4602678819172646912) ≤ 4881901996069617664 := add_rg (Nat.le_of_lt hs) (show rg FloatKind.f64.format 4602678819172646912 ≤ 4602678819172646912 by decide +kernel) (by decide +kernel) (by decide +kernel) (by decide +kernel)
    have g2 : rg FloatKind.f64.format (fint .down (fop .add .f64 x 4602678819172646912)) ≤ 4881901996069617664 := fint_rg (B := 2 ^ 61) (N := 1074) .down g1 (by decide +kernel) (by decide +kernel) (by decide +kernel) (by decide +kernel)
    have g3 : rg FloatKind.f64.format (fop .sub .f64 x (fint .down (fop .add .f64 x 4602678819172646912))) ≤ 4886405595696988160 := sub_rg (Nat.le_of_lt hs) g2 (by decide +kernel) (by decide +kernel) (by decide +kernel)
    exact ⟨finW_nan (finW_of g1 (by decide +kernel)), down_t (c := 2130706432) (N := 925) g3 (by decide +kernel) (by decide +kernel) (by decide +kernel) (by decide +kernel), finW_nan (finW_of g3 (by decide +kernel))⟩
  · have hbn : FloatKind.f64.format.binade = 4503599627370496 := by decide
    have hinf : FloatKind.f64.format.infRung = 9218868437227405312 := by decide
    have hh : finW .f64 4602678819172646912 = true := by decide +kernel
    have hv : vl .f64 4602678819172646912 = ((2 ^ 1073 : Nat) : Int) := by decide +kernel
    have hxl := finW_lt hx
    -- the neighbours
    have u1 := rungV_succ FloatKind.f64.format (r := rg FloatKind.f64.format x) (by rw [hbn]; omega)
    have u2 := rungV_succ FloatKind.f64.format (r := rg FloatKind.f64.format x - 1) (by rw [hbn]; omega)
    rw [show rg FloatKind.f64.format x - 1 + 1 = rg FloatKind.f64.format x by omega] at u2
    have d1 := pow2_le 1073 (rg FloatKind.f64.format x / FloatKind.f64.format.binade - 1) (by rw [hbn]; omega)
    have d2 := pow2_le 1073 ((rg FloatKind.f64.format x - 1) / FloatKind.f64.format.binade - 1) (by rw [hbn]; omega)
    have d3 := pow2_le (rg FloatKind.f64.format x / FloatKind.f64.format.binade - 1) 1151 (by rw [hbn]; omega)
    have d4 := pow2_le ((rg FloatKind.f64.format x - 1) / FloatKind.f64.format.binade - 1) 1151 (by rw [hbn]; omega)
    generalize 2 ^ (rg FloatKind.f64.format x / FloatKind.f64.format.binade - 1) = D1 at u1 d1 d3
    generalize 2 ^ ((rg FloatKind.f64.format x - 1) / FloatKind.f64.format.binade - 1) = D2 at u2 d2 d4
    have hmx : mg .f64 x = rungV FloatKind.f64.format (rg FloatKind.f64.format x) := rfl
    have ha := add_word hx hh
    rw [hv] at ha
    have hmag : rungV FloatKind.f64.format (rg FloatKind.f64.format x - 1) ≤ (vl .f64 x + ((2 ^ 1073 : Nat) : Int)).natAbs ∧ (vl .f64 x + ((2 ^ 1073 : Nat) : Int)).natAbs ≤ rungV FloatKind.f64.format (rg FloatKind.f64.format x + 1) ∧ sgn0 (nn .f64 x) (nn .f64 4602678819172646912) (vl .f64 x + ((2 ^ 1073 : Nat) : Int)) = nn .f64 x := by
      have hpos : 0 < (2 : Nat) ^ 1073 := Nat.two_pow_pos 1073
      unfold vl
      rw [hmx]
      generalize (2 : Nat) ^ 1073 = H at d1 d2 hpos ⊢
      have hge : H ≤ rungV FloatKind.f64.format (rg FloatKind.f64.format x) := by omega
      have hpr : 0 < rungV FloatKind.f64.format (rg FloatKind.f64.format x - 1) := by
        have : rungV FloatKind.f64.format 1 ≤ rungV FloatKind.f64.format (rg FloatKind.f64.format x - 1) := rungV_le _ (by omega)
        have h1 : rungV FloatKind.f64.format 1 = 1 := by decide +kernel
        omega
      generalize rungV FloatKind.f64.format (rg FloatKind.f64.format x) = M at u1 u2 hge ⊢
      unfold sg sgn0
      cases hs : nn .f64 x
      · refine ⟨by simp; omega, by simp; omega, ?_⟩
        rw [if_neg (show ¬ (false = true) by decide), if_neg (by omega)]
        exact decide_eq_false (by omega)
      · refine ⟨by rw [if_pos rfl]; omega, by rw [if_pos rfl]; omega, ?_⟩
        rw [if_pos rfl, if_neg (by omega)]
        exact decide_eq_true (by omega)
    obtain ⟨m1, m2, m3⟩ := hmag
    rw [m3] at ha
    have r1 : rnd FloatKind.f64.format (vl .f64 x + ((2 ^ 1073 : Nat) : Int)).natAbs (lp .f64) ≤ rg FloatKind.f64.format x + 1 := rnd_le FloatKind.f64.format (u := 0) (v := 0) rfl (by rw [Nat.pow_zero, Nat.mul_one, Nat.mul_one]; exact m2)
    have r2 : rg FloatKind.f64.format x - 1 ≤ rnd FloatKind.f64.format (vl .f64 x + ((2 ^ 1073 : Nat) : Int)).natAbs (lp .f64) := le_rnd FloatKind.f64.format (u := 0) (v := 0) (by omega) rfl (by rw [Nat.pow_zero, Nat.mul_one, Nat.mul_one]; exact m1)
    generalize rnd FloatKind.f64.format (vl .f64 x + ((2 ^ 1073 : Nat) : Int)).natAbs (lp .f64) = ry at ha r1 r2
    have hry : ry < FloatKind.f64.format.infRung := by rw [hinf]; omega
    have hyf : finW .f64 (fop .add .f64 x 4602678819172646912) = true := by rw [ha]; exact finW_of (by rw [rg_word _ _ (Nat.le_of_lt hry)]; exact Nat.le_refl _) hry
    obtain ⟨w1, w2⟩ := fint_whole .down hyf (by rw [ha, rg_word _ _ (Nat.le_of_lt hry)]; omega)
    have hvy : vl .f64 (fop .add .f64 x 4602678819172646912) = sg (nn .f64 x) (rungV FloatKind.f64.format ry) := by
      rw [ha]; unfold vl; rw [nn_word _ _ (Nat.le_of_lt hry), mg_word _ _ (Nat.le_of_lt hry)]
    have hsub := sub_word hx w2
    rw [w1, hvy] at hsub
    have hdiff : (vl .f64 x - sg (nn .f64 x) (rungV FloatKind.f64.format ry)).natAbs ≤ 2 ^ 1151 + 2 ^ 1151 := by
      have q1 : rungV FloatKind.f64.format ry ≤ rungV FloatKind.f64.format (rg FloatKind.f64.format x + 1) := rungV_le _ r1
      have q2 : rungV FloatKind.f64.format (rg FloatKind.f64.format x - 1) ≤ rungV FloatKind.f64.format ry := rungV_le _ r2
      unfold vl
      rw [hmx]
      generalize (2 : Nat) ^ 1151 = E at d3 d4 ⊢
      unfold sg
      cases nn .f64 x
      · simp; omega
      · rw [if_pos rfl, if_pos rfl]; omega
    have g3 : rg FloatKind.f64.format (fop .sub .f64 x (fint .down (fop .add .f64 x 4602678819172646912))) ≤ 4962966789362286592 := by
      rw [hsub, rg_word _ _ (rnd_inf _ _ _)]
      refine rnd_le FloatKind.f64.format (u := 0) (v := 0) rfl ?_
      rw [Nat.pow_zero, Nat.mul_one, Nat.mul_one]
      exact Nat.le_trans hdiff (by decide +kernel)
    exact ⟨finW_nan hyf, down_t (c := 2130706432) (N := 925) g3 (by decide +kernel) (by decide +kernel) (by decide +kernel) (by decide +kernel), finW_nan (finW_of g3 (by decide +kernel))⟩
end Go.Rf

/-
  Rounding of what lies very near a rung; the angles of a station are finite for all flows or for none.
-/
set_option linter.unusedVariables false
set_option linter.unusedSimpArgs false
namespace Go.Rf
open Go

theorem cut_up (neg : Bool) {c b e : Nat} (hc : c ≠ 0) (h : 2 * e < 2 ^ b) : Ieee.Toward.even.cut neg (c * 2 ^ b + e) b = c := by
  unfold Ieee.Toward.cut
  rw [Nat.one_shiftLeft]
  dsimp only
  have hp := Nat.two_pow_pos b
  have hge : 2 ^ b ≤ c * 2 ^ b := Nat.le_mul_of_pos_left _ (by omega)
  have hlog : b ≤ (c * 2 ^ b + e).log2 := (Nat.le_log2 (by omega)).2 (by omega)
  have hq : (c * 2 ^ b + e) / 2 ^ b = c := by
    rw [Nat.mul_comm, Nat.mul_add_div hp, Nat.div_eq_of_lt (by omega), Nat.add_zero]
  have hm : (c * 2 ^ b + e) % 2 ^ b = e := by
    rw [Nat.mul_comm, Nat.mul_add_mod, Nat.mod_eq_of_lt (by omega)]
  rw [Nat.min_eq_left (by omega), hq, hm]
  have e1 : decide (2 ^ b < 2 * e) = false := decide_eq_false (by omega)
  have e2 : (2 ^ b == 2 * e) = false := by simp; omega
  rw [e1, e2]
  simp
theorem cut_dn (neg : Bool) {c b e : Nat} (hc : c ≠ 0) (h0 : 0 < e) (h : 2 * e < 2 ^ b) : Ieee.Toward.even.cut neg (c * 2 ^ b - e) b = c := by
  obtain ⟨k, rfl⟩ : ∃ k, c = k + 1 := ⟨c - 1, by omega⟩
  have hp := Nat.two_pow_pos b
  have hs : (k + 1) * 2 ^ b - e = k * 2 ^ b + (2 ^ b - e) := by rw [Nat.succ_mul]; omega
  rw [hs]
  have hb : b ≠ 0 := by intro hb; subst hb; simp at h; omega
  obtain ⟨a, rfl⟩ : ∃ a, b = a + 1 := ⟨b - 1, by omega⟩
  have hp2 : 2 ^ (a + 1) = 2 * 2 ^ a := by rw [Nat.pow_succ, Nat.mul_comm]
  unfold Ieee.Toward.cut
  rw [Nat.one_shiftLeft]
  dsimp only
  have hge : 2 ^ a ≤ k * 2 ^ (a + 1) + (2 ^ (a + 1) - e) := Nat.le_trans (by omega) (Nat.le_add_left _ _)
  have hlog : a ≤ (k * 2 ^ (a + 1) + (2 ^ (a + 1) - e)).log2 := (Nat.le_log2 (by have := Nat.two_pow_pos a; omega)).2 hge
  have hq : (k * 2 ^ (a + 1) + (2 ^ (a + 1) - e)) / 2 ^ (a + 1) = k := by
    rw [Nat.mul_comm, Nat.mul_add_div hp, Nat.div_eq_of_lt (by omega), Nat.add_zero]
  have hm : (k * 2 ^ (a + 1) + (2 ^ (a + 1) - e)) % 2 ^ (a + 1) = 2 ^ (a + 1) - e := by
    rw [Nat.mul_comm, Nat.mul_add_mod, Nat.mod_eq_of_lt (by omega)]
  rw [Nat.min_eq_left (by omega), hq, hm]
  have e1 : decide (2 ^ (a + 1) < 2 * (2 ^ (a + 1) - e)) = true := decide_eq_true (by omega)
  rw [e1]
  simp
theorem rnd_at (f : Ieee.Format) {m d : Nat} (hm : m ≠ 0) (hl : m.log2 = f.fractionBits + d) : rnd f m f.leastPlace = min (d * f.binade + Ieee.Toward.even.cut false m d) f.infRung := by
  have hr : rnd f m f.leastPlace = min ((max (f.leastPlace + (m.log2 : Int) - f.fractionBits) f.leastPlace - f.leastPlace).toNat * f.binade + Ieee.Toward.even.cut false (m <<< (f.leastPlace - max (f.leastPlace + (m.log2 : Int) - f.fractionBits) f.leastPlace).toNat) (max (f.leastPlace + (m.log2 : Int) - f.fractionBits) f.leastPlace - f.leastPlace).toNat) f.infRung := by
    unfold rnd Ieee.Format.nearest
    rw [if_neg hm]
    exact (word_rg f false (Nat.min_le_right _ _)).1
  rw [hr, hl, show max (f.leastPlace + ((f.fractionBits + d : Nat) : Int) - f.fractionBits) f.leastPlace = f.leastPlace + (d : Int) by omega,
    show (f.leastPlace + (d : Int) - f.leastPlace).toNat = d by omega, show (f.leastPlace - (f.leastPlace + (d : Int))).toNat = 0 by omega, Nat.shiftLeft_zero]
theorem log2_is {m k : Nat} (h1 : 2 ^ k ≤ m) (h2 : m < 2 ^ (k + 1)) : m.log2 = k := by
  have h0 : m ≠ 0 := by have := Nat.two_pow_pos k; omega
  have a := (Nat.le_log2 h0).2 h1
  have b := (Nat.log2_lt h0).2 h2
  omega
theorem rnd_up (f : Ieee.Format) {c d e : Nat} (h1 : f.binade ≤ c) (h2 : c < 2 * f.binade) (h3 : 4 * e < 2 ^ d) : rnd f (c * 2 ^ d + e) f.leastPlace = min (d * f.binade + c) f.infRung := by
  have hb := binade_pos f
  have hbin : f.binade = 2 ^ f.fractionBits := rfl
  have hp := Nat.two_pow_pos d
  have q1 : 2 ^ (f.fractionBits + d) ≤ c * 2 ^ d := by rw [Nat.pow_add, ← hbin]; exact Nat.mul_le_mul_right _ h1
  have q2 : c * 2 ^ d + 2 ^ d ≤ 2 ^ (f.fractionBits + d + 1) := by
    rw [Nat.add_assoc, Nat.add_comm d 1, ← Nat.add_assoc, Nat.pow_add, Nat.pow_succ, ← hbin, ← Nat.succ_mul]
    exact Nat.mul_le_mul_right _ (by omega)
  rw [rnd_at f (by omega) (log2_is (k := f.fractionBits + d) (by omega) (by omega)), cut_up false (by omega) (by omega)]
theorem rnd_dn (f : Ieee.Format) {c d e : Nat} (h1 : f.binade ≤ c) (h2 : c < 2 * f.binade) (h0 : 0 < e) (h3 : 4 * e < 2 ^ d) : rnd f (c * 2 ^ d - e) f.leastPlace = min (d * f.binade + c) f.infRung := by
  have hb := binade_pos f
  have hbin : f.binade = 2 ^ f.fractionBits := rfl
  have hp := Nat.two_pow_pos d
  have q2 : c * 2 ^ d + 2 ^ d ≤ 2 ^ (f.fractionBits + d + 1) := by
    rw [Nat.add_assoc, Nat.add_comm d 1, ← Nat.add_assoc, Nat.pow_add, Nat.pow_succ, ← hbin, ← Nat.succ_mul]
    exact Nat.mul_le_mul_right _ (by omega)
  rcases Nat.lt_or_ge f.binade c with hc | hc
  · have q1 : 2 ^ (f.fractionBits + d) + 2 ^ d ≤ c * 2 ^ d := by rw [Nat.pow_add, ← hbin, ← Nat.succ_mul]; exact Nat.mul_le_mul_right _ hc
    rw [rnd_at f (by have := Nat.two_pow_pos (f.fractionBits + d); omega) (log2_is (k := f.fractionBits + d) (by omega) (by omega)), cut_dn false (by omega) h0 (by omega)]
  · obtain rfl : c = f.binade := by omega
    have hd0 : d ≠ 0 := by intro h; subst h; simp at h3; omega
    obtain ⟨k, rfl⟩ : ∃ k, d = k + 1 := ⟨d - 1, by omega⟩
    have hk : 2 ^ (k + 1) = 2 * 2 ^ k := by rw [Nat.pow_succ, Nat.mul_comm]
    have q3 : f.binade * 2 ^ (k + 1) = 2 * f.binade * 2 ^ k := by rw [hk, ← Nat.mul_assoc, Nat.mul_comm f.binade 2]
    have q4 : f.binade * 2 ^ k + f.binade * 2 ^ k = 2 * f.binade * 2 ^ k := by rw [← Nat.add_mul]; congr 1; omega
    have q5 : 2 ^ k ≤ f.binade * 2 ^ k := Nat.le_mul_of_pos_left _ hb
    have q6 : 2 ^ (f.fractionBits + k) = f.binade * 2 ^ k := by rw [Nat.pow_add, ← hbin]
    have q7 : 2 ^ (f.fractionBits + k + 1) = 2 * f.binade * 2 ^ k := by rw [Nat.pow_succ, q6]; omega
    rw [q3, rnd_at f (by have := Nat.two_pow_pos k; omega) (log2_is (k := f.fractionBits + k) (by omega) (by omega)), cut_dn false (by omega) h0 (by omega)]
    congr 1
    rw [Nat.add_mul k 1, Nat.one_mul]
    omega
theorem rung_parts (f : Ieee.Format) {r : Nat} (h : f.binade ≤ r) : r = (r / f.binade - 1) * f.binade + (f.binade + r % f.binade) ∧ rungV f r = (f.binade + r % f.binade) * 2 ^ (r / f.binade - 1) ∧ f.binade + r % f.binade < 2 * f.binade := by
  have hb := binade_pos f
  have h1 : 1 ≤ r / f.binade := (Nat.le_div_iff_mul_le hb).2 (by omega)
  have hm := Nat.mod_lt r hb
  have hd := Nat.div_add_mod r f.binade
  have e : r = (r / f.binade - 1) * f.binade + (f.binade + r % f.binade) := by
    have : (r / f.binade - 1) * f.binade + f.binade = r / f.binade * f.binade := by
      rw [← Nat.succ_mul]; congr 1; omega
    rw [Nat.mul_comm] at hd
    omega
  refine ⟨e, ?_, by omega⟩
  have := rungV_split f (d := r / f.binade - 1) (q := f.binade + r % f.binade) (.inr (by omega)) (by omega)
  rw [← e] at this
  exact this
theorem rnd_near (f : Ieee.Format) {r m : Nat} (hr : f.binade ≤ r) (hi : r ≤ f.infRung) (h1 : 4 * (m - rungV f r) < 2 ^ (r / f.binade - 1)) (h2 : 4 * (rungV f r - m) < 2 ^ (r / f.binade - 1)) : rnd f m f.leastPlace = r := by
  obtain ⟨e, hv, hlt⟩ := rung_parts f hr
  rcases Nat.lt_or_ge m (rungV f r) with hm | hm
  · have := rnd_dn f (c := f.binade + r % f.binade) (d := r / f.binade - 1) (e := rungV f r - m) (by omega) hlt (by omega) h2
    rw [← hv, ← e, show rungV f r - (rungV f r - m) = m by omega] at this
    omega
  · have := rnd_up f (c := f.binade + r % f.binade) (d := r / f.binade - 1) (e := m - rungV f r) (by omega) hlt h1
    rw [← hv, ← e, show rungV f r + (m - rungV f r) = m by omega] at this
    omega

/-! ### A small number less a great one -/
theorem b32 : FloatKind.f32.format.binade = 8388608 := by decide
theorem i32 : FloatKind.f32.format.infRung = 2139095040 := by decide
theorem sub_big {x t : Nat} (hx : rg FloatKind.f32.format x ≤ 1048576000) (ht : finW .f32 t = true) (hb : 1900000000 ≤ rg FloatKind.f32.format t) :
    rg FloatKind.f32.format (fop .sub .f32 x t) = rg FloatKind.f32.format t ∧ nn .f32 (fop .sub .f32 x t) = !nn .f32 t := by
  have hti := finW_lt ht
  rw [i32] at hti
  have hxf : finW .f32 x = true := finW_of hx (by rw [i32]; omega)
  have vx : mg .f32 x ≤ rungV FloatKind.f32.format 1048576000 := mg_le hx
  have vt : rungV FloatKind.f32.format 1900000000 ≤ mg .f32 t := rungV_le _ hb
  have c1 : 4 * rungV FloatKind.f32.format 1048576000 < 2 ^ 200 := by decide +kernel
  have c2 : rungV FloatKind.f32.format 1048576000 < rungV FloatKind.f32.format 1900000000 := by decide +kernel
  have hd : 200 ≤ rg FloatKind.f32.format t / FloatKind.f32.format.binade - 1 := by
    rw [b32]
    have := Nat.div_le_div_right (c := 8388608) hb
    omega
  have c3 := Nat.pow_le_pow_right (n := 2) (by omega) hd
  have hbin : FloatKind.f32.format.binade ≤ rg FloatKind.f32.format t := by rw [b32]; omega
  have hv : (vl .f32 x - vl .f32 t).natAbs ≤ mg .f32 t + mg .f32 x ∧ mg .f32 t ≤ (vl .f32 x - vl .f32 t).natAbs + mg .f32 x ∧ decide (vl .f32 x - vl .f32 t < 0) = !nn .f32 t ∧ vl .f32 x - vl .f32 t ≠ 0 := by
    unfold vl
    generalize nn .f32 x = s
    generalize nn .f32 t = u
    cases s <;> cases u <;> simp only [sg, if_true, Bool.false_eq_true, if_false, Bool.not_true, Bool.not_false, decide_eq_true_eq, decide_eq_false_iff_not] <;> omega
  have hr : rnd FloatKind.f32.format (vl .f32 x - vl .f32 t).natAbs FloatKind.f32.format.leastPlace = rg FloatKind.f32.format t := by
    have : mg .f32 t = rungV FloatKind.f32.format (rg FloatKind.f32.format t) := rfl
    generalize (2 : Nat) ^ (rg FloatKind.f32.format t / FloatKind.f32.format.binade - 1) = P at c3
    refine rnd_near FloatKind.f32.format hbin (by rw [i32]; omega) ?_ ?_
    · rw [← this]
      refine Nat.lt_of_lt_of_le (Nat.lt_of_le_of_lt ?_ c1) (Nat.pow_le_pow_right (n := 2) (by omega) hd)
      omega
    · rw [← this]
      refine Nat.lt_of_lt_of_le (Nat.lt_of_le_of_lt ?_ c1) (Nat.pow_le_pow_right (n := 2) (by omega) hd)
      omega
  rw [sub_word hxf ht]
  have hlp : lp .f32 = FloatKind.f32.format.leastPlace := rfl
  rw [hlp, hr]
  refine ⟨rg_word _ _ (by rw [i32]; omega), ?_⟩
  rw [nn_word _ _ (by rw [i32]; omega)]
  unfold sgn0
  rw [if_neg hv.2.2.2, hv.2.2.1]
theorem sub_fine {a p : Nat} (ha : rg FloatKind.f32.format a ≤ 1910000000) (hp : finW .f32 p = true) : finW .f32 (fop .sub .f32 a p) = true := by
  have hpi := finW_lt hp
  rw [i32] at hpi
  have haf : finW .f32 a = true := finW_of ha (by rw [i32]; omega)
  have va : mg .f32 a ≤ rungV FloatKind.f32.format 1910000000 := mg_le ha
  have vp : mg .f32 p ≤ rungV FloatKind.f32.format 2139095039 := rungV_le _ (by omega)
  have hv : (vl .f32 a - vl .f32 p).natAbs ≤ mg .f32 a + mg .f32 p := by
    have := Int.natAbs_sub_le (vl .f32 a) (vl .f32 p)
    unfold vl at this ⊢
    rw [sg_abs, sg_abs] at this
    exact this
  have c1 : 4 * rungV FloatKind.f32.format 1910000000 < 2 ^ (2139095039 / FloatKind.f32.format.binade - 1) := by decide +kernel
  rw [sub_word haf hp]
  have hlp : lp .f32 = FloatKind.f32.format.leastPlace := rfl
  rw [hlp]
  refine finW_of (c := 2139095039) ?_ (by rw [i32]; omega)
  rw [rg_word _ _ (rnd_inf _ _ _)]
  rcases Nat.lt_or_ge (vl .f32 a - vl .f32 p).natAbs (rungV FloatKind.f32.format 2139095039) with h | h
  · refine rnd_le _ (u := 0) (v := 0) (by omega) ?_
    simp only [Nat.pow_zero, Nat.mul_one]
    omega
  · refine Nat.le_of_eq (rnd_near _ (by rw [b32]; omega) (by rw [i32]; omega) ?_ ?_)
    · refine Nat.lt_of_le_of_lt ?_ c1
      omega
    · rw [Nat.sub_eq_zero_of_le h, Nat.mul_zero]
      exact Nat.two_pow_pos _
theorem flow_fin {x y t p : Nat} (hx : rg FloatKind.f32.format x ≤ 1048576000) (hy : rg FloatKind.f32.format y ≤ 1048576000) (ht : finW .f32 t = true) (hp : finW .f32 p = true) :
    finW .f32 (fop .sub .f32 (fop .sub .f32 x t) p) = finW .f32 (fop .sub .f32 (fop .sub .f32 y t) p) := by
  have hti := finW_lt ht
  rcases Nat.lt_or_ge (rg FloatKind.f32.format t) 1900000000 with h | h
  · have hs : ∀ z, rg FloatKind.f32.format z ≤ 1048576000 → finW .f32 (fop .sub .f32 (fop .sub .f32 z t) p) = true := by
      intro z hz
      refine sub_fine ?_ hp
      exact sub_rg hz (Nat.le_of_lt h) (by rw [i32]; omega) (by rw [i32]; omega) (by decide +kernel)
    rw [hs x hx, hs y hy]
  · obtain ⟨a1, a2⟩ := sub_big hx ht h
    obtain ⟨b1, b2⟩ := sub_big hy ht h
    have fa : finW .f32 (fop .sub .f32 x t) = true := finW_of (Nat.le_of_eq a1) hti
    have fb : finW .f32 (fop .sub .f32 y t) = true := finW_of (Nat.le_of_eq b1) hti
    have hv : vl .f32 (fop .sub .f32 x t) = vl .f32 (fop .sub .f32 y t) := by unfold vl mg; rw [a1, a2, b1, b2]
    rw [sub_word fa hp, sub_word fb hp, hv]
    unfold finW
    rw [rg_word _ _ (rnd_inf _ _ _), rg_word _ _ (rnd_inf _ _ _)]

/-! ### The middle of two flows -/
def flw (x : Nat) : Prop := nn .f32 x = false ∧ 981668463 ≤ rg FloatKind.f32.format x ∧ rg FloatKind.f32.format x ≤ 1048508891
theorem flw_mid {x y : Nat} (hx : flw x) (hy : flw y) : flw (fop .mul .f32 1056964608 (fop .add .f32 x y)) := by
  obtain ⟨x1, x2, x3⟩ := hx
  obtain ⟨y1, y2, y3⟩ := hy
  have fx : finW .f32 x = true := finW_of x3 (by rw [i32]; omega)
  have fy : finW .f32 y = true := finW_of y3 (by rw [i32]; omega)
  have l1 : rungV FloatKind.f32.format 981668463 ≤ mg .f32 x := rungV_le _ x2
  have l2 : rungV FloatKind.f32.format 981668463 ≤ mg .f32 y := rungV_le _ y2
  have u1 : mg .f32 x ≤ rungV FloatKind.f32.format 1048508891 := mg_le x3
  have u2 : mg .f32 y ≤ rungV FloatKind.f32.format 1048508891 := mg_le y3
  have c1 : rungV FloatKind.f32.format 990057071 = rungV FloatKind.f32.format 981668463 + rungV FloatKind.f32.format 981668463 := by decide +kernel
  have c2 : rungV FloatKind.f32.format 1056897499 = rungV FloatKind.f32.format 1048508891 + rungV FloatKind.f32.format 1048508891 := by decide +kernel
  have hv : vl .f32 x + vl .f32 y = ((mg .f32 x + mg .f32 y : Nat) : Int) := by
    unfold vl
    rw [x1, y1]
    simp [sg]
  have hs : nn .f32 (fop .add .f32 x y) = false ∧ 990057071 ≤ rg FloatKind.f32.format (fop .add .f32 x y) ∧ rg FloatKind.f32.format (fop .add .f32 x y) ≤ 1056897499 := by
    rw [add_word fx fy, hv, rg_word _ _ (rnd_inf _ _ _), nn_word _ _ (rnd_inf _ _ _), Int.natAbs_natCast]
    refine ⟨?_, ?_, ?_⟩
    · unfold sgn0
      rw [x1, y1, Bool.false_and]
      split
      · rfl
      · exact decide_eq_false (by omega)
    · refine le_rnd _ (u := 0) (v := 0) (by rw [i32]; omega) (by unfold lp; omega) ?_
      simp only [Nat.pow_zero, Nat.mul_one]
      omega
    · refine rnd_le _ (u := 0) (v := 0) (by unfold lp; omega) ?_
      simp only [Nat.pow_zero, Nat.mul_one]
      omega
  obtain ⟨s1, s2, s3⟩ := hs
  generalize fop .add .f32 x y = s at s1 s2 s3 ⊢
  have fs : finW .f32 s = true := finW_of s3 (by rw [i32]; omega)
  have fh : finW .f32 1056964608 = true := by decide +kernel
  have l3 : rungV FloatKind.f32.format 990057071 ≤ mg .f32 s := rungV_le _ s2
  have u3 : mg .f32 s ≤ rungV FloatKind.f32.format 1056897499 := mg_le s3
  have mh : mg .f32 1056964608 = 2 ^ 148 := by decide +kernel
  have nh : nn .f32 1056964608 = false := by decide +kernel
  have d1 : rungV FloatKind.f32.format 981668463 * 2 ^ 149 = 2 ^ 148 * rungV FloatKind.f32.format 990057071 := by decide +kernel
  have d2 : rungV FloatKind.f32.format 1048508891 * 2 ^ 149 = 2 ^ 148 * rungV FloatKind.f32.format 1056897499 := by decide +kernel
  have hlp : lp .f32 = -149 := by decide +kernel
  have hlp2 : FloatKind.f32.format.leastPlace = -149 := hlp
  unfold flw
  rw [mul_word fh fs, rg_word _ _ (rnd_inf _ _ _), nn_word _ _ (rnd_inf _ _ _), nh, s1, mh]
  refine ⟨rfl, ?_, ?_⟩
  · refine le_rnd _ (u := 0) (v := 149) (by rw [i32]; omega) (by rw [hlp, hlp2]; decide) ?_
    rw [Nat.pow_zero, Nat.mul_one, d1]
    exact Nat.mul_le_mul_left _ l3
  · refine rnd_le _ (u := 0) (v := 149) (by rw [hlp, hlp2]; decide) ?_
    rw [Nat.pow_zero, Nat.mul_one, d2]
    exact Nat.mul_le_mul_left _ u3
end Go.Rf

/-
  What the row's reading of the arguments says of them, as deep values; what a law's summary says of its calls.
-/
set_option linter.unusedVariables false
set_option linter.unusedSimpArgs false
namespace Go.Rf
open Go Go.Deep Go.RowKit

inductive Sh where
  | b
  | i (k : IntKind)
  | f (k : FloatKind)
  | row (sz : Nat) (q : Sh)

def allB : List Sh → Bool
  | [] => true
  | .b :: r => allB r
  | _ => false
def allI (k : IntKind) : List Sh → Bool
  | [] => true
  | .i k' :: r => match decide (k = k') with | true => allI k r | false => false
  | _ => false
def allF (k : FloatKind) : List Sh → Bool
  | [] => true
  | .f k' :: r => match decide (k = k') with | true => allF k r | false => false
  | _ => false
def oneSh : List Sh → Option Sh
  | .b :: r => match allB r with | true => some .b | false => none
  | .i k :: r => match allI k r with | true => some (.i k) | false => none
  | .f k :: r => match allF k r with | true => some (.f k) | false => none
  | _ => none

section
variable (P : Program)
def shapeFs (g : TypeId → Option (List Sh)) : List Field → Nat → Option (List Sh)
  | [], _ => some []
  | f :: r, off => match Nat.beq f.offset off with
    | false => none
    | true => match g f.type with
      | some ss => match Nat.beq (P.cellsOf f.type) ss.length with
        | false => none
        | true => match shapeFs g r (off + ss.length) with | some rs => some (ss ++ rs) | none => none
      | none => none
def shapeT : Nat → TypeId → Option (List Sh)
  | 0, _ => none
  | n + 1, T => match P.underlying T with
    | some .bool => some [.b]
    | some (.int k) => some [.i k]
    | some (.float k) => some [.f k]
    | some (.slice e) => match shapeT n e with
      | some ss => match oneSh ss with
        | some q => match Nat.beq (P.cellsOf e) ss.length with | true => some [.row ss.length q] | false => none
        | none => none
      | none => none
    | some (.struct fs) => match shapeFs P (shapeT n) fs.toList 0 with
      | some ss => match Nat.beq (P.cellsOf T) ss.length with | true => some ss | false => none
      | none => none
    | _ => none
end

def bdI (k : IntKind) (n : Int) : Prop := k.min ≤ n ∧ n ≤ k.max
def RowP : Sh → Body → Prop
  | .b, b => ∃ xs, b = .bl xs
  | .i k, b => ∃ xs, b = .il k xs ∧ ∀ x ∈ xs, bdI k x
  | .f k, b => ∃ xs, b = .fl k xs ∧ ∀ x ∈ xs, canW k x
  | .row _ _, _ => False
def ShP : Sh → PV → Prop
  | .b, p => ∃ b, p = .s (.bool b)
  | .i k, p => ∃ n, p = .s (.int k n) ∧ bdI k n
  | .f k, p => ∃ x, p = .s (.flt k x) ∧ canW k x
  | .row sz q, p => ∃ len b, p = .row sz len b ∧ b.size = len * sz ∧ len ≤ maxLen ∧ RowP q b

section
variable {H : Type} {enc : TypeId × Value → H} {P : Program} {w : World} {sp : Nat → Bool} {held : Bool}

theorem wf_float {k : FloatKind} {b : Nat} (h : (Lit.float k b).wf = true) : wfW k b := by
  unfold wfW
  cases k
  · have e : (2 : Nat) ^ FloatKind.f32.format.width = 2 ^ 32 := by decide
    rw [e]; exact of_decide_eq_true h
  · have e : (2 : Nat) ^ FloatKind.f64.format.width = 2 ^ 64 := by decide +kernel
    rw [e]; exact of_decide_eq_true h
theorem trod_float {T : TypeId} {k : FloatKind} {fuel : Nat} {cs : List Value} {x : DataW H × List MemPlace} (ht : P.underlying T = some (.float k)) (h : DataW.trod enc P w 0 sp held fuel T cs = some x) : ∃ b, cs = [.float k b] ∧ wfW k b := by
  cases fuel with
  | zero => simp [DataW.trod] at h
  | succ n =>
    unfold DataW.trod at h
    rw [ht] at h
    split at h <;> (try (rename_i e; cases e; done)) <;> try (cases h; done)
    rename_i e
    cases e
    split at h
    · rename_i hk
      obtain ⟨rfl, hw⟩ := hk
      exact ⟨_, rfl, wf_float hw⟩
    · cases h
theorem trod_int' {T : TypeId} {k : IntKind} {fuel : Nat} {cs : List Value} {x : DataW H × List MemPlace} (ht : P.underlying T = some (.int k)) (h : DataW.trod enc P w 0 sp held fuel T cs = some x) : ∃ n, cs = [.int k n] ∧ bdI k n := by
  cases fuel with
  | zero => simp [DataW.trod] at h
  | succ n =>
    unfold DataW.trod at h
    rw [ht] at h
    split at h <;> (try (rename_i e; cases e; done)) <;> try (cases h; done)
    rename_i e
    cases e
    split at h
    · rename_i hk
      obtain ⟨rfl, hw⟩ := hk
      refine ⟨_, rfl, ?_⟩
      simpa [Lit.wf, bdI] using hw
    · cases h
theorem trod_bool' {T : TypeId} {fuel : Nat} {cs : List Value} {x : DataW H × List MemPlace} (ht : P.underlying T = some .bool) (h : DataW.trod enc P w 0 sp held fuel T cs = some x) : ∃ b, cs = [.bool b] := by
  cases fuel with
  | zero => simp [DataW.trod] at h
  | succ n =>
    unfold DataW.trod at h
    rw [ht] at h
    split at h <;> (try (rename_i e; cases e; done)) <;> try (cases h; done)
    exact ⟨_, rfl⟩

def CellQ : Sh → Value → Prop
  | .b, v => ∃ b, v = .bool b
  | .i k, v => ∃ n, v = .int k n ∧ bdI k n
  | .f k, v => ∃ b, v = .float k b ∧ wfW k b
  | .row _ _, _ => False

theorem allB_get : ∀ {l : List Sh}, allB l = true → ∀ {i : Nat} {s : Sh}, l[i]? = some s → s = .b
  | [], _, i, s, h => by simp at h
  | .b :: r, h, 0, s, hs => by simp at hs; exact hs.symm
  | .b :: r, h, i + 1, s, hs => allB_get (l := r) h (by simpa using hs)
theorem allI_get {k : IntKind} : ∀ {l : List Sh}, allI k l = true → ∀ {i : Nat} {s : Sh}, l[i]? = some s → s = .i k
  | [], _, i, s, h => by simp at h
  | .i k' :: r, h, i, s, hs => by
    simp only [allI] at h
    split at h
    · rename_i hk
      have hk := of_decide_eq_true hk
      subst hk
      cases i with
      | zero => simp at hs; exact hs.symm
      | succ i => exact allI_get h (by simpa using hs)
    · cases h
theorem allF_get {k : FloatKind} : ∀ {l : List Sh}, allF k l = true → ∀ {i : Nat} {s : Sh}, l[i]? = some s → s = .f k
  | [], _, i, s, h => by simp at h
  | .f k' :: r, h, i, s, hs => by
    simp only [allF] at h
    split at h
    · rename_i hk
      have hk := of_decide_eq_true hk
      subst hk
      cases i with
      | zero => simp at hs; exact hs.symm
      | succ i => exact allF_get h (by simpa using hs)
    · cases h
theorem oneSh_get {l : List Sh} {q : Sh} (h : oneSh l = some q) : (∀ {i : Nat} {s : Sh}, l[i]? = some s → s = q) ∧ 0 < l.length ∧ ∀ sz p, q ≠ .row sz p := by
  unfold oneSh at h
  split at h
  · split at h
    · rename_i hk
      cases h
      exact ⟨fun {i s} hs => by cases i with | zero => simp at hs; exact hs.symm | succ i => exact allB_get hk (by simpa using hs), by simp, fun _ _ e => by cases e⟩
    · cases h
  · split at h
    · rename_i hk
      cases h
      exact ⟨fun {i s} hs => by cases i with | zero => simp at hs; exact hs.symm | succ i => exact allI_get hk (by simpa using hs), by simp, fun _ _ e => by cases e⟩
    · cases h
  · split at h
    · rename_i hk
      cases h
      exact ⟨fun {i s} hs => by cases i with | zero => simp at hs; exact hs.symm | succ i => exact allF_get hk (by simpa using hs), by simp, fun _ _ e => by cases e⟩
    · cases h
  · cases h

theorem cellQ_of {q : Sh} {p : PV} {v : Value} (h : ShP q p) (hd : DA w p v) (hq : ∀ sz r, q ≠ .row sz r) : CellQ q v := by
  cases q with
  | b => obtain ⟨b, rfl⟩ := h; exact ⟨b, hd⟩
  | i k => obtain ⟨n, rfl, hn⟩ := h; exact ⟨n, hd, hn⟩
  | f k => obtain ⟨x, rfl, hx⟩ := h; obtain ⟨b, h1, h2, _⟩ := hd; exact ⟨b, h1, h2⟩
  | row sz r => exact absurd rfl (hq sz r)

def rowQ (w : World) (B o : Nat) (q : Sh) (n : Nat) : Body :=
  match q with
  | .b => .bl ((List.range n).map fun j => match w.cell? ⟨B, o + j, none⟩ with | some (.bool b) => b | _ => false)
  | .i k => .il k ((List.range n).map fun j => match w.cell? ⟨B, o + j, none⟩ with | some (.int _ b) => b | _ => 0)
  | .f k => .fl k ((List.range n).map fun j => match w.cell? ⟨B, o + j, none⟩ with | some (.float _ b) => cn k b | _ => 0)
  | .row _ _ => .cells []
theorem rowQ_ok {q : Sh} (hq : ∀ sz r, q ≠ .row sz r) {B o n : Nat} (h : ∀ j, j < n → ∃ v, w.cell? ⟨B, o + j, none⟩ = some v ∧ CellQ q v) :
    (rowQ w B o q n).isRow = true ∧ (rowQ w B o q n).size = n ∧ RowP q (rowQ w B o q n) ∧ ∀ j a, j < n → (rowQ w B o q n).get j = some a → ∃ u, w.cell? ⟨B, o + j, none⟩ = some u ∧ R0 NoB [] a u := by
  cases q with
  | b =>
    refine ⟨rfl, by simp [rowQ, Body.size], ⟨_, rfl⟩, fun j a hj ha => ?_⟩
    obtain ⟨v, hv, b, rfl⟩ := h j hj
    refine ⟨_, hv, ?_⟩
    simp only [rowQ, Body.get] at ha
    cases ha
    simp [List.getD_eq_getElem?_getD, hj, hv, R0]
  | i k =>
    refine ⟨rfl, by simp [rowQ, Body.size], ⟨_, rfl, fun x hx => ?_⟩, fun j a hj ha => ?_⟩
    · obtain ⟨j, hj, rfl⟩ := List.mem_map.1 hx
      obtain ⟨v, hv, n, rfl, hn⟩ := h j (by simpa using hj)
      simp only [hv]; exact hn
    · obtain ⟨v, hv, n, rfl, _⟩ := h j hj
      refine ⟨_, hv, ?_⟩
      simp only [rowQ, Body.get] at ha
      cases ha
      simp [List.getD_eq_getElem?_getD, hj, hv, R0]
  | f k =>
    refine ⟨rfl, by simp [rowQ, Body.size], ⟨_, rfl, fun x hx => ?_⟩, fun j a hj ha => ?_⟩
    · obtain ⟨j, hj, rfl⟩ := List.mem_map.1 hx
      obtain ⟨v, hv, b, rfl, hb⟩ := h j (by simpa using hj)
      simp only [hv]; exact canW_of hb
    · obtain ⟨v, hv, b, rfl, hb⟩ := h j hj
      refine ⟨_, hv, ?_⟩
      simp only [rowQ, Body.get] at ha
      cases ha
      simp [List.getD_eq_getElem?_getD, hj, hv, R0]
      exact hb
  | row sz r => exact absurd rfl (hq sz r)

theorem cells_open : ∀ (n : Nat) {T : TypeId} {ss : List Sh} {fuel : Nat} {cs : List Value} {x : DataW H × List MemPlace}, shapeT P n T = some ss → DataW.trod enc P w 0 sp held fuel T cs = some x → ∃ pvs, All2 (DA w) pvs cs ∧ All2 ShP ss pvs
  | 0, T, ss, fuel, cs, x, hs, _ => by cases hs
  | n + 1, T, ss, fuel, cs, x, hs, h => by
    unfold shapeT at hs
    split at hs
    · rename_i ht
      cases hs
      obtain ⟨b, rfl⟩ := trod_bool' ht h
      exact ⟨[.s (.bool b)], .cons rfl .nil, .cons ⟨b, rfl⟩ .nil⟩
    · rename_i k ht
      cases hs
      obtain ⟨m, rfl, hm⟩ := trod_int' ht h
      exact ⟨[.s (.int k m)], .cons rfl .nil, .cons ⟨m, rfl, hm⟩ .nil⟩
    · rename_i k ht
      cases hs
      obtain ⟨b, rfl, hb⟩ := trod_float ht h
      exact ⟨[.s (.flt k (cn k b))], .cons ⟨b, rfl, hb, rfl⟩ .nil, .cons ⟨_, rfl, canW_of hb⟩ .nil⟩
    · rename_i e ht
      split at hs
      case h_2 => cases hs
      rename_i es hes
      split at hs
      case h_2 => cases hs
      rename_i q hq
      split at hs
      case h_2 => cases hs
      rename_i hsz
      cases hs
      have hsz := beq_eq hsz
      obtain ⟨q1, q2, q3⟩ := oneSh_get hq
      rcases open_slice ht h with ⟨rfl, _⟩ | ⟨a, len, cap, m, fu, D, Pl, rfl, _, hle, hcap, hm, _, hel⟩
      · have := rowQ_ok (w := w) (n := 0) q3 (B := 0) (o := 0) (fun j hj => absurd hj (Nat.not_lt_zero _))
        obtain ⟨r1, r2, r3, _⟩ := this
        exact ⟨[.row es.length 0 (rowQ w 0 0 q 0)], .cons ⟨r1, by rw [r2]; simp, none, 0, rfl, Nat.le_refl _, fun hh => absurd hh (Nat.lt_irrefl _)⟩ .nil, .cons ⟨0, _, rfl, by rw [r2]; simp, Nat.zero_le _, r3⟩ .nil⟩
      · by_cases hl : 0 < len
        · have hlm : len ≤ m := by rw [hm]; split <;> omega
          -- the cells
          have hcell : ∀ i r, i < len → r < es.length → ∃ v, w.cell? ((a.add (i * es.length)).add r) = some v ∧ CellQ q v := by
            intro i r hi hr
            obtain ⟨cs', g1, g2⟩ := hel i (by omega)
            rw [hsz] at g1
            obtain ⟨_, g3, g4⟩ := World.cells?_some g1
            obtain ⟨pvs, k1, k2⟩ := cells_open n hes g2
            have hlen := k2.length
            have hlen' := k1.length
            obtain ⟨p, hp⟩ : ∃ p, pvs[r]? = some p := ⟨pvs[r]'(by omega), List.getElem?_eq_getElem (by omega)⟩
            obtain ⟨v, hv, hd⟩ := k1.get r p hp
            obtain ⟨s, hs⟩ : ∃ s, es[r]? = some s := ⟨es[r]'hr, List.getElem?_eq_getElem hr⟩
            obtain ⟨p', hp', hsp⟩ := k2.get r s hs
            rw [hp] at hp'
            cases hp'
            have := q1 hs
            subst this
            exact ⟨v, by rw [g4 r hr]; exact hv, cellQ_of hsp hd q3⟩
          obtain ⟨B, o, spot⟩ := a
          have hspot : spot = none := by
            obtain ⟨v, hv, _⟩ := hcell 0 0 hl q2
            simpa [Addr.add] using World.cell?_spot hv
          subst hspot
          have hc : ∀ j, j < len * es.length → ∃ v, w.cell? ⟨B, o + j, none⟩ = some v ∧ CellQ q v := by
            intro j hj
            have hi : j / es.length < len := (Nat.div_lt_iff_lt_mul q2).2 hj
            obtain ⟨v, hv, hq'⟩ := hcell (j / es.length) (j % es.length) hi (Nat.mod_lt _ q2)
            refine ⟨v, ?_, hq'⟩
            have e : ((⟨B, o, none⟩ : Addr).add (j / es.length * es.length)).add (j % es.length) = ⟨B, o + j, none⟩ := by
              have hj' : j / es.length * es.length + j % es.length = j := by rw [Nat.mul_comm]; exact Nat.div_add_mod j _
              have add : ∀ (o m : Nat), (⟨B, o, none⟩ : Addr).add m = ⟨B, o + m, none⟩ := by
                intro o m
                unfold Addr.add
                split
                · rename_i e; subst e; rfl
                · rfl
              rw [add, add, Nat.add_assoc, hj']
            rw [e] at hv; exact hv
          obtain ⟨r1, r2, r3, r4⟩ := rowQ_ok q3 hc
          have hB : B < w.heap.size := by
            obtain ⟨v, hv, _⟩ := hc 0 (Nat.mul_pos hl q2)
            rcases Nat.lt_or_ge B w.heap.size with hh | hh
            · exact hh
            · unfold World.cell? at hv
              simp [hh] at hv
          refine ⟨[.row es.length len (rowQ w B o q (len * es.length))], .cons ⟨r1, r2, _, cap, rfl, hle, fun _ => ⟨B, o, rfl, hB, fun j qq hj hqq => r4 j qq (by rw [r2] at hj; exact hj) hqq⟩⟩ .nil, .cons ⟨len, _, rfl, r2, by omega, r3⟩ .nil⟩
        · obtain rfl : len = 0 := by omega
          obtain ⟨r1, r2, r3, _⟩ := rowQ_ok (w := w) (n := 0) q3 (B := 0) (o := 0) (fun j hj => absurd hj (Nat.not_lt_zero _))
          exact ⟨[.row es.length 0 (rowQ w 0 0 q 0)], .cons ⟨r1, by rw [r2]; simp, _, cap, rfl, hle, fun hh => absurd hh (Nat.lt_irrefl _)⟩ .nil, .cons ⟨0, _, rfl, by rw [r2]; simp, Nat.zero_le _, r3⟩ .nil⟩
    · rename_i fs ht
      split at hs
      case h_2 => cases hs
      rename_i ss' hss
      split at hs
      case h_2 => cases hs
      rename_i hsz
      cases hs
      have hsz := beq_eq hsz
      obtain ⟨xs, fu, rfl, _, hl, hxl, hf⟩ := DataW.trod_struct ht h
      have key : ∀ (l : List Field) (off : Nat) (rs : List Sh), shapeFs P (shapeT P n) l off = some rs → (∀ f ∈ l, ∃ y, DataW.trod enc P w 0 sp held fu f.type ((cs.drop f.offset).take (P.cellsOf f.type)) = some y) →
          ∃ pvs, All2 (DA w) pvs ((cs.drop off).take rs.length) ∧ All2 ShP rs pvs := by
        intro l
        induction l with
        | nil => intro off rs hrs _; cases hrs; exact ⟨[], by simpa using All2.nil, .nil⟩
        | cons f l ih =>
          intro off rs hrs hall
          simp only [shapeFs] at hrs
          split at hrs
          · cases hrs
          rename_i hoff
          have hoff := beq_eq hoff
          split at hrs
          case h_2 => cases hrs
          rename_i fs' hfs'
          split at hrs
          · cases hrs
          rename_i hc
          have hc := beq_eq hc
          split at hrs
          case h_2 => cases hrs
          rename_i rr hrr
          cases hrs
          obtain ⟨y, hy⟩ := hall f (by simp)
          obtain ⟨p1, a1, a2⟩ := cells_open n hfs' hy
          obtain ⟨p2, b1, b2⟩ := ih _ _ hrr fun g hg => hall g (by simp [hg])
          refine ⟨p1 ++ p2, ?_, a2.append b2⟩
          rw [List.length_append, List.take_add, List.drop_drop]
          rw [hoff, hc] at a1
          exact a1.append b1
      obtain ⟨pvs, k1, k2⟩ := key fs.toList 0 ss hss fun f hf' => by
        obtain ⟨i, hi, rfl⟩ := List.getElem_of_mem hf'
        have hi' : i < fs.size := by simpa using hi
        have := hf i fs[i] (Array.getElem?_eq_getElem hi')
        rw [List.getElem?_eq_getElem (by omega : i < xs.length)] at this
        exact ⟨_, by simpa using this⟩
      refine ⟨pvs, ?_, k2⟩
      rw [List.drop_zero, List.take_of_length_le (by omega)] at k1
      exact k1
    · cases hs

theorem All2.cons_inv {α β : Type} {R : α → β → Prop} {a : α} {as : List α} {ys : List β} (h : All2 R (a :: as) ys) : ∃ y ys', ys = y :: ys' ∧ R a y ∧ All2 R as ys' := by
  cases h with
  | cons h1 h2 => exact ⟨_, _, rfl, h1, h2⟩
theorem All2.nil_inv {α β : Type} {R : α → β → Prop} {ys : List β} (h : All2 R [] ys) : ys = [] := by
  cases h; rfl

/-! ### Arguments -/
inductive SA where
  | one (s : Sh)
  | agg (ss : List Sh)
end
def isAgg (P : Program) (T : TypeId) : Bool := match P.underlying T with | some (.struct _) => true | some (.array _ _) => true | _ => false
def shA (P : Program) (T : TypeId) : Option SA :=
  match isAgg P T with
  | true => match shapeT P 8 T with | some ss => some (.agg ss) | none => none
  | false => match shapeT P 8 T with | some [s] => some (.one s) | _ => none
def shAs (P : Program) : List TypeId → Option (List SA)
  | [] => some []
  | T :: r => match shA P T with | some s => (match shAs P r with | some ss => some (s :: ss) | none => none) | none => none
def ArgP : SA → PT → Prop
  | .one s, .one p => ShP s p
  | .agg ss, .agg ps => All2 ShP ss ps
  | _, _ => False

theorem ArgP.one_inv {s : Sh} {p : PT} (h : ArgP (.one s) p) : ∃ q, p = .one q ∧ ShP s q := by
  cases p with
  | one q => exact ⟨q, rfl, h⟩
  | _ => exact h.elim
theorem ArgP.agg_inv {ss : List Sh} {p : PT} (h : ArgP (.agg ss) p) : ∃ qs, p = .agg qs ∧ All2 ShP ss qs := by
  cases p with
  | agg q => exact ⟨q, rfl, h⟩
  | _ => exact h.elim

section
variable {H : Type} {enc : TypeId × Value → H} {P : Program} {w : World} {sp : Nat → Bool} {held : Bool}
theorem arg_open {r : Reach} {base : Nat} {T : TypeId} {v : Value} {d : DataW H} {ps : List MemPlace} (hv : Value.okWide P w r base T v) (h : DataW.Trod enc P w 0 sp held T v d ps) {s : SA} (hs : shA P T = some s) : ∃ pt, DT w pt v ∧ ArgP s pt := by
  obtain ⟨fuel, h⟩ := h
  unfold shA at hs
  split at hs
  · rename_i hag
    split at hs
    case h_2 => cases hs
    rename_i ss hss
    cases hs
    obtain ⟨pvs, h1, h2⟩ := cells_open 8 hss h
    unfold Value.okWide at hv
    unfold isAgg at hag
    split at hag
    · rename_i fs ht
      rw [ht] at hv
      obtain ⟨arr, rfl, _⟩ := hv
      exact ⟨.agg pvs, ⟨arr, rfl, by simpa [Value.cells] using h1⟩, h2⟩
    · rename_i e n ht
      rw [ht] at hv
      obtain ⟨arr, rfl, _⟩ := hv
      exact ⟨.agg pvs, ⟨arr, rfl, by simpa [Value.cells] using h1⟩, h2⟩
    · cases hag
  · rename_i hag
    split at hs
    case h_2 => cases hs
    rename_i s1 hss
    cases hs
    obtain ⟨pvs, h1, h2⟩ := cells_open 8 hss h
    cases h2 with
    | cons k1 k2 =>
      cases k2
      rename_i p
      have hc : v.cells = #[v] := by
        unfold Value.okWide at hv
        unfold isAgg at hag
        cases v with
        | agg cs =>
          exfalso
          split at hv
          · rename_i ht; rw [ht] at hag; cases hag
          · rename_i ht; rw [ht] at hag; cases hag
          · unfold Cell.okWide at hv
            split at hv <;> first | (rename_i e _; cases e; done) | (rename_i e; cases e; done) | skip
            all_goals first | exact hv | (simp [Cell.ok] at hv; done) | skip
            all_goals (unfold Cell.ok at hv; split at hv <;> simp_all)
        | _ => rfl
      rw [hc] at h1
      cases h1 with
      | cons a1 a2 =>
        exact ⟨.one p, a1, k1⟩
theorem args_open {r : Reach} {base : Nat} : ∀ {Ts : List TypeId} {vs : List Value} {ds : List (DataW H)} {ps : List MemPlace} {ss : List SA}, (∀ (j : Nat) t v, Ts[j]? = some t → vs[j]? = some v → Value.okWide P w r base t v) →
    DataW.TrodAll enc P w 0 sp held Ts vs ds ps → shAs P Ts = some ss → ∃ pts, All2 (DT w) pts vs ∧ All2 ArgP ss pts
  | [], vs, ds, ps, ss, hv, h, hs => by
    cases hs
    obtain ⟨rfl, _, _⟩ := ChangeShapes.trodAll_nil h
    exact ⟨[], .nil, .nil⟩
  | T :: Ts, vs, ds, ps, ss, hv, h, hs => by
    obtain ⟨v, vs', d, ds', p, q, rfl, rfl, rfl, h1, h2⟩ := ChangeShapes.trodAll_cons h
    simp only [shAs] at hs
    split at hs
    case h_2 => cases hs
    rename_i s hs1
    split at hs
    case h_2 => cases hs
    rename_i rs hrs
    cases hs
    obtain ⟨pt, a1, a2⟩ := arg_open (hv 0 T v rfl rfl) h1 hs1
    obtain ⟨pts, b1, b2⟩ := args_open (fun j t u hj hu => hv (j + 1) t u (by simpa using hj) (by simpa using hu)) h2 hrs
    exact ⟨pt :: pts, .cons a1 b1, .cons a2 b2⟩

theorem law_calls {g : FuncId} {F : List PT → Option (Bool × AV × List Blk)} {fi : FnI} (hs : SumOne P g F) (hf : FnOk P g fi) {pts : List PT} {vals : Array Value} (hv : All2 (DT w) pts vals.toList) (hp : F pts = some (true, A1 (.bool true), [])) :
    Calls P g vals w fun e w' => e = .returned (.bool true) ∧ Below w.heap.size w w' := by
  have post : ∀ {u : Value} {w' : World}, (∃ γ, Fresh γ [] w w' ∧ RV γ [] (A1 (.bool true)) u) → u = .bool true ∧ Below w.heap.size w w' := by
    rintro u w' ⟨γ, h1, h2⟩
    exact ⟨h2, ⟨h1.fr.os, h1.fr.tape, h1.fr.output, h1.fr.size, fun k hk => h1.fr.block k hk (fun h => h)⟩⟩
  rcases hs pts _ _ hp w vals hv with ⟨v, w', h1, h2⟩ | ⟨h1, h2⟩
  · exfalso
    obtain ⟨fn, q1, q2, q3, q4, q5⟩ := hf.ex
    have h5' : fn.name ≠ "runtime.NumGoroutine" := by simpa using q5
    simp [callFunc, q1, h5', q2] at h1
  · exact h2.mono fun e w' ⟨u, he, hu⟩ => ⟨by rw [he, (post hu).1], (post hu).2⟩
end
end Go.Rf
