/-
  Facts of float arithmetic: what is written hangs on the value alone; products and sums commute; a half.
-/
import Derived.Test.YtohhkgieggfpeaaOrd
set_option linter.unusedVariables false
namespace Go.Rf
open Go

theorem log2_mul_pow {m : Nat} (k : Nat) (h : m ≠ 0) : (m * 2 ^ k).log2 = m.log2 + k := by
  have h0 : m * 2 ^ k ≠ 0 := Nat.mul_ne_zero h (Nat.ne_of_gt (Nat.two_pow_pos k))
  refine (Nat.log2_eq_iff h0).2 ⟨?_, ?_⟩
  · rw [Nat.pow_add]; exact Nat.mul_le_mul_right _ (Nat.log2_self_le h)
  · rw [show m.log2 + k + 1 = (m.log2 + 1) + k by omega, Nat.pow_add]
    exact Nat.mul_lt_mul_of_pos_right Nat.lt_log2_self (Nat.two_pow_pos k)

theorem cut_exact (neg : Bool) (n d : Nat) (h : n ≠ 0) : Ieee.Toward.even.cut neg (n * 2 ^ d) d = n := by
  unfold Ieee.Toward.cut
  have hm : min d ((n * 2 ^ d).log2 + 2) = d := by rw [log2_mul_pow d h]; omega
  rw [hm, Nat.one_shiftLeft]
  dsimp only
  have hp := Nat.two_pow_pos d
  rw [Nat.mul_div_cancel _ hp, Nat.mul_mod_left]
  have e1 : decide (2 ^ d < 2 * 0) = false := decide_eq_false (by omega)
  have e2 : ((2 ^ d == 2 * 0) : Bool) = false := by simp
  simp [e2]
theorem cut_scale (neg : Bool) (n d k : Nat) (h : n ≠ 0) : Ieee.Toward.even.cut neg (n * 2 ^ k) (d + k) = Ieee.Toward.even.cut neg n d := by
  unfold Ieee.Toward.cut
  have hm : min (d + k) ((n * 2 ^ k).log2 + 2) = min d (n.log2 + 2) + k := by rw [log2_mul_pow k h]; omega
  rw [hm, Nat.one_shiftLeft, Nat.one_shiftLeft, Nat.pow_add]
  dsimp only
  have hp := Nat.two_pow_pos k
  rw [Nat.mul_div_mul_right _ _ hp, Nat.mul_mod_mul_right]
  generalize min d (n.log2 + 2) = q
  have e1 : (2 ^ q * 2 ^ k < 2 * (n % 2 ^ q * 2 ^ k)) ↔ (2 ^ q < 2 * (n % 2 ^ q)) := by
    rw [← Nat.mul_assoc]
    exact Nat.mul_lt_mul_right hp
  have e2 : (2 ^ q * 2 ^ k = 2 * (n % 2 ^ q * 2 ^ k)) ↔ (2 ^ q = 2 * (n % 2 ^ q)) := by
    rw [← Nat.mul_assoc]
    exact Nat.mul_left_inj (Nat.ne_of_gt hp)
  simp only [e1]
  have e3 : ((2 ^ q * 2 ^ k == 2 * (n % 2 ^ q * 2 ^ k)) : Bool) = (2 ^ q == 2 * (n % 2 ^ q)) := by
    rw [Bool.eq_iff_iff]; simp only [beq_iff_eq]; exact e2
  rw [e3]

/-- What is written hangs on the value alone. -/
theorem nearest_scale (f : Ieee.Format) (neg : Bool) (m k : Nat) (place : Int) : f.nearest neg (m * 2 ^ k) place = f.nearest neg m (place + k) := by
  unfold Ieee.Format.nearest
  by_cases h : m = 0
  · subst h; simp
  · have h0 : m * 2 ^ k ≠ 0 := Nat.mul_ne_zero h (Nat.ne_of_gt (Nat.two_pow_pos k))
    rw [if_neg h, if_neg h0, log2_mul_pow k h]
    have hl : place + ((m.log2 + k : Nat) : Int) - f.fractionBits = place + (k : Int) + (m.log2 : Int) - f.fractionBits := by omega
    rw [hl]
    generalize max (place + (k : Int) + (m.log2 : Int) - f.fractionBits) f.leastPlace = l
    dsimp only
    congr 3
    rcases Int.le_total l place with h1 | h1
    · obtain ⟨a, ha⟩ := Int.eq_ofNat_of_zero_le (show 0 ≤ place - l by omega)
      have e1 : (place - l).toNat = a := by omega
      have e2 : (l - place).toNat = 0 := by omega
      have e3 : (place + k - l).toNat = a + k := by omega
      have e4 : (l - (place + k)).toNat = 0 := by omega
      rw [e1, e2, e3, e4, Nat.shiftLeft_eq, Nat.shiftLeft_eq, Nat.pow_add, Nat.mul_assoc, Nat.mul_comm (2 ^ k)]
    · rcases Int.le_total l (place + k) with h2 | h2
      · obtain ⟨a, ha⟩ := Int.eq_ofNat_of_zero_le (show 0 ≤ place + k - l by omega)
        obtain ⟨d, hd⟩ := Int.eq_ofNat_of_zero_le (show 0 ≤ l - place by omega)
        have e1 : (place - l).toNat = 0 := by omega
        have e2 : (l - place).toNat = d := by omega
        have e3 : (place + k - l).toNat = a := by omega
        have e4 : (l - (place + k)).toNat = 0 := by omega
        have hk : k = a + d := by omega
        rw [e1, e2, e3, e4, Nat.shiftLeft_eq, Nat.shiftLeft_eq, hk, Nat.pow_add, Nat.pow_zero, Nat.mul_one, ← Nat.mul_assoc]
        have hne : m * 2 ^ a ≠ 0 := Nat.mul_ne_zero h (Nat.ne_of_gt (Nat.two_pow_pos a))
        rw [cut_exact neg _ d hne]
        have := cut_exact neg (m * 2 ^ a) 0 hne
        simpa using this.symm
      · obtain ⟨d, hd⟩ := Int.eq_ofNat_of_zero_le (show 0 ≤ l - (place + k) by omega)
        have e1 : (place - l).toNat = 0 := by omega
        have e2 : (l - place).toNat = d + k := by omega
        have e3 : (place + k - l).toNat = 0 := by omega
        have e4 : (l - (place + k)).toNat = d := by omega
        rw [e1, e2, e3, e4, Nat.shiftLeft_eq, Nat.shiftLeft_eq, Nat.pow_zero, Nat.mul_one, Nat.mul_one]
        exact cut_scale neg m d k h

/-! ### What is read -/
theorem read_number {k : FloatKind} {x : Nat} {s : Bool} {m : Nat} {e : Int} (h : k.format.read x = .number s m e) : m < 2 ^ (k.format.fractionBits + 1) := by
  have hb : k.format.binade = 2 ^ k.format.fractionBits := rfl
  have h2 : 2 ^ (k.format.fractionBits + 1) = 2 ^ k.format.fractionBits + 2 ^ k.format.fractionBits := by rw [Nat.pow_succ]; omega
  unfold Ieee.Format.read at h
  simp only at h
  split at h
  · cases h
    rename_i hr
    rw [hb] at hr
    omega
  · split at h
    · cases h
      have := Nat.mod_lt (x % k.format.signWeight) (show 0 < k.format.binade by rw [hb]; exact Nat.two_pow_pos _)
      omega
    · split at h <;> cases h

theorem fop_mul_comm (k : FloatKind) (x y : Nat) : fop .mul k x y = fop .mul k y x := by
  unfold fop floatBits Ieee.Format.mul
  simp only
  congr 2
  cases k.format.read x <;> cases k.format.read y <;> simp only [Ieee.Datum.product, Bool.xor_comm, Nat.mul_comm, Int.add_comm]
theorem fop_add_comm (k : FloatKind) (x y : Nat) : fop .add k x y = fop .add k y x := by
  unfold fop floatBits Ieee.Format.add
  simp only
  congr 2
  cases k.format.read x <;> cases k.format.read y <;> simp only [Ieee.Datum.sum]
  · rename_i s m i t n j
    rw [Int.min_comm, Int.add_comm, Bool.and_comm]
  · rename_i s t
    by_cases e : s = t
    · subst e; rfl
    · rw [if_neg e, if_neg (fun q => e q.symm)]

/-- A half. -/
theorem half_eq (x : Nat) : fop .quo .f32 x 1073741824 = fop .mul .f32 1056964608 x := by
  have r2 : FloatKind.f32.format.read 1073741824 = .number false 8388608 (-22) := by decide +kernel
  have rh : FloatKind.f32.format.read 1056964608 = .number false 8388608 (-24) := by decide +kernel
  unfold fop floatBits Ieee.Format.mul Ieee.Format.div
  simp only
  rw [r2, rh]
  congr 1
  cases hx : FloatKind.f32.format.read x with
  | nan s f => rfl
  | infinity s => simp [Ieee.Datum.quotient, Ieee.Datum.product]
  | number s m i =>
    have hm := read_number hx
    have hfb : FloatKind.f32.format.fractionBits = 23 := rfl
    rw [hfb] at hm
    simp only [Ieee.Datum.quotient, Ieee.Datum.product, hfb]
    rw [if_neg (by decide)]
    simp only [Option.map_some, Option.some.injEq, Ieee.Format.write]
    have hlog : Nat.log2 8388608 = 23 := by decide +kernel
    rw [hlog]
    by_cases h0 : m = 0
    · subst h0
      simp [Ieee.Format.nearest]
    · have hl : m.log2 < 24 := (Nat.log2_lt h0).2 hm
      obtain ⟨q, hq⟩ : ∃ q, 23 + 2 + 23 - m.log2 = q + 23 := ⟨25 - m.log2, by omega⟩
      rw [hq]
      have e1 : m <<< (q + 23) = m * 2 ^ q * 8388608 := by rw [Nat.shiftLeft_eq, Nat.pow_add, ← Nat.mul_assoc]
      rw [e1, Nat.mul_div_cancel _ (by decide), Nat.mul_mod_left]
      have e2 : 2 * (m * 2 ^ q) + ((0 : Nat) != 0).toNat = m * 2 ^ (q + 1) := by
        rw [Nat.pow_succ, Nat.mul_comm (2 ^ q) 2, ← Nat.mul_assoc, ← Nat.mul_assoc, Nat.mul_comm m 2]; rfl
      have e3 : 8388608 * m = m * 2 ^ 23 := by omega
      rw [e2, nearest_scale, e3, nearest_scale]
      have : i - (-22) - ((q + 23 : Nat) : Int) - 1 + ((q + 1 : Nat) : Int) = -24 + i + ((23 : Nat) : Int) := by omega
      rw [this]
      simp
end Go.Rf
