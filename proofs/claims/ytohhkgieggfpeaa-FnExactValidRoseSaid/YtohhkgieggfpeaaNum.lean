/-
  Floats up to the bits of a NaN: canonical words, the operations on them, and that an operation of the model comes to the canonical result.
-/
import Derived.Laws.FloatArith
set_option linter.unusedVariables false
namespace Go.Rf
open Go

/-- The one NaN that stands for all. -/
def qn : FloatKind → Nat
  | .f32 => 2143289344
  | .f64 => 9221120237041090560
def nanB (k : FloatKind) (b : Nat) : Bool := (k.decode b).isNaN
/-- The canonical word of a word. -/
def cn (k : FloatKind) (b : Nat) : Nat := if nanB k b then qn k else b
/-- '+', '-', '*', '/' on canonical words. -/
def fop (op : BinOp) (k : FloatKind) (x y : Nat) : Nat := (floatBits op k x y).getD (qn k)
/-- A comparison. -/
def fcmp (op : BinOp) (k : FloatKind) (x y : Nat) : Bool :=
  match op with
  | .eql => k.format.order x y == some .eq
  | .neq => k.format.order x y != some .eq
  | .lss => k.format.order x y == some .lt
  | .leq => k.format.order x y == some .lt || k.format.order x y == some .eq
  | .gtr => k.format.order x y == some .gt
  | .geq => k.format.order x y == some .gt || k.format.order x y == some .eq
  | _ => false
def fneg (k : FloatKind) (x : Nat) : Nat := if nanB k x then qn k else Op.negFloat k x
/-- A float of the other kind; 'none' where a number is too great. -/
def fcv (s d : FloatKind) (x : Nat) : Option Nat :=
  if nanB s x then some (qn d) else floatToFloatBits s x d
def fcvV (s d : FloatKind) (x : Nat) : Nat := (fcv s d x).getD 0
def fcvB (s d : FloatKind) (x : Nat) : Bool := (fcv s d x).isSome
def f2iV (s : FloatKind) (x : Nat) (d : IntKind) : Int := (floatToIntVal s x d).getD 0
def f2iB (s : FloatKind) (x : Nat) (d : IntKind) : Bool := !nanB s x && (floatToIntVal s x d).isSome
def fsqrt (x : Nat) : Nat := (FloatKind.f64.format.sqrt x).getD (qn .f64)
def fint (way : Ieee.Toward) (x : Nat) : Nat := if nanB .f64 x then qn .f64 else FloatKind.f64.encode ((FloatKind.f64.decode x).integral way)

theorem nanB_qn (k : FloatKind) : nanB k (qn k) = true := by cases k <;> decide +kernel
theorem cn_of_nan {k : FloatKind} {b : Nat} (h : nanB k b = true) : cn k b = qn k := by simp [cn, h]
theorem cn_of_not {k : FloatKind} {b : Nat} (h : nanB k b = false) : cn k b = b := by simp [cn, h]
theorem nanB_cn (k : FloatKind) (b : Nat) : nanB k (cn k b) = nanB k b := by
  by_cases h : nanB k b = true
  · rw [cn_of_nan h, nanB_qn, h]
  · have h' : nanB k b = false := by simpa using h
    rw [cn_of_not h']
theorem cn_cn (k : FloatKind) (b : Nat) : cn k (cn k b) = cn k b := by
  by_cases h : nanB k b = true
  · rw [cn_of_nan h, cn_of_nan (nanB_qn k)]
  · have h' : nanB k b = false := by simpa using h
    rw [cn_of_not h', cn_of_not h']

theorem nan_form {k : FloatKind} {b : Nat} (h : nanB k b = true) : ∃ s f, k.format.read b = .nan s f := by
  unfold nanB FloatKind.decode Ieee.Datum.isNaN at h
  split at h
  · exact ⟨_, _, by assumption⟩
  · cases h

theorem read_cn (k : FloatKind) (b : Nat) : k.format.read (cn k b) = k.format.read b ∨ ((∃ s f, k.format.read b = .nan s f) ∧ ∃ s f, k.format.read (cn k b) = .nan s f) := by
  by_cases h : nanB k b = true
  · exact .inr ⟨nan_form h, nan_form (by rw [nanB_cn, h])⟩
  · exact .inl (by rw [cn_of_not (by simpa using h)])

theorem sum_nan_left (s : Bool) (f : Nat) (d : Ieee.Datum) : Ieee.Datum.sum (.nan s f) d = none := by cases d <;> rfl
theorem sum_nan_right (s : Bool) (f : Nat) (d : Ieee.Datum) : Ieee.Datum.sum d (.nan s f) = none := by cases d <;> rfl
theorem product_nan_left (s : Bool) (f : Nat) (d : Ieee.Datum) : Ieee.Datum.product (.nan s f) d = none := by cases d <;> rfl
theorem product_nan_right (s : Bool) (f : Nat) (d : Ieee.Datum) : Ieee.Datum.product d (.nan s f) = none := by cases d <;> rfl
theorem quotient_nan_left (n : Nat) (s : Bool) (f : Nat) (d : Ieee.Datum) : Ieee.Datum.quotient n (.nan s f) d = none := by cases d <;> rfl
theorem quotient_nan_right (n : Nat) (s : Bool) (f : Nat) (d : Ieee.Datum) : Ieee.Datum.quotient n d (.nan s f) = none := by cases d <;> rfl
theorem order_nan_left (s : Bool) (f : Nat) (d : Ieee.Datum) : Ieee.Datum.order (.nan s f) d = none := by cases d <;> rfl
theorem order_nan_right (s : Bool) (f : Nat) (d : Ieee.Datum) : Ieee.Datum.order d (.nan s f) = none := by cases d <;> rfl

theorem floatBits_cn (op : BinOp) (k : FloatKind) (x y : Nat) : floatBits op k (cn k x) (cn k y) = floatBits op k x y := by
  have key : ∀ g : Ieee.Datum → Ieee.Datum → Option Ieee.Datum, (∀ s f d, g (.nan s f) d = none) → (∀ s f d, g d (.nan s f) = none) →
      (g (k.format.read (cn k x)) (k.format.read (cn k y))).map k.format.write = (g (k.format.read x) (k.format.read y)).map k.format.write := by
    intro g h1 h2
    rcases read_cn k x with e | ⟨⟨s, f, e⟩, s', f', e'⟩
    · rcases read_cn k y with d | ⟨⟨s, f, d⟩, s', f', d'⟩
      · rw [e, d]
      · rw [d, d', h2, h2]
    · rw [e, e', h1, h1]
  unfold floatBits
  cases op
  case add => exact key Ieee.Datum.sum sum_nan_left sum_nan_right
  case sub => exact key (fun a b => a.sum b.opposite) (fun s f d => sum_nan_left s f _) (fun s f d => sum_nan_right _ f d)
  case mul => exact key Ieee.Datum.product product_nan_left product_nan_right
  case quo => exact key (Ieee.Datum.quotient (k.format.fractionBits + 2)) (quotient_nan_left _) (quotient_nan_right _)
  all_goals rfl

theorem order_cn (k : FloatKind) (x y : Nat) : k.format.order (cn k x) (cn k y) = k.format.order x y := by
  unfold Ieee.Format.order
  rcases read_cn k x with e | ⟨⟨s, f, e⟩, s', f', e'⟩
  · rcases read_cn k y with d | ⟨⟨s, f, d⟩, s', f', d'⟩
    · rw [e, d]
    · rw [d, d', order_nan_right, order_nan_right]
  · rw [e, e', order_nan_left, order_nan_left]

theorem fcmp_cn (op : BinOp) (k : FloatKind) (x y : Nat) : fcmp op k (cn k x) (cn k y) = fcmp op k x y := by unfold fcmp; rw [order_cn]

/-- What the sign bit leaves of a word. -/
theorem read_nan_iff (k : FloatKind) (b : Nat) : nanB k b = decide (k.format.infRung < b % k.format.signWeight) := by
  have h1 : k.format.binade ≤ k.format.infRung := by cases k <;> decide +kernel
  unfold nanB FloatKind.decode Ieee.Format.read
  dsimp only
  split
  · rename_i h; simp only [Ieee.Datum.isNaN]; symm; simp only [decide_eq_false_iff_not]; omega
  · split
    · rename_i h; simp only [Ieee.Datum.isNaN]; symm; simp only [decide_eq_false_iff_not]; omega
    · split
      · rename_i h; simp only [Ieee.Datum.isNaN]; symm; simp only [decide_eq_false_iff_not]; omega
      · simp only [Ieee.Datum.isNaN]; symm; simp only [decide_eq_true_iff]; omega

theorem nanB_word (k : FloatKind) (neg : Bool) {r : Nat} (h : r ≤ k.format.infRung) : nanB k (k.format.word neg r) = false := by
  have h2 := k.format.infRung_lt
  rw [read_nan_iff]
  unfold Ieee.Format.word
  simp only [decide_eq_false_iff_not]
  split
  · rw [Nat.add_mod_left, Nat.mod_eq_of_lt (by omega)]; omega
  · rw [Nat.mod_eq_of_lt (by omega)]; omega

theorem nanB_write (k : FloatKind) {d : Ieee.Datum} (h : d.isNaN = false) : nanB k (k.format.write d) = false := by
  cases d with
  | number s m e =>
    show nanB k (k.format.nearest s m e) = false
    unfold Ieee.Format.nearest
    dsimp only
    split
    · exact nanB_word k s (Nat.zero_le _)
    · exact nanB_word k s (Nat.min_le_right ..)
  | infinity s => exact nanB_word k s (Nat.le_refl _)
  | nan s f => cases h

theorem sum_not_nan {x y d : Ieee.Datum} (h : x.sum y = some d) : d.isNaN = false := by
  unfold Ieee.Datum.sum at h
  split at h <;> first | cases h | skip
  · split at h
    · cases h; rfl
    · cases h
  all_goals rfl
theorem product_not_nan {x y d : Ieee.Datum} (h : x.product y = some d) : d.isNaN = false := by
  unfold Ieee.Datum.product at h
  split at h <;> first | cases h | skip
  all_goals first | rfl | (split at h <;> first | cases h | skip)
  all_goals rfl
theorem quotient_not_nan {n : Nat} {x y d : Ieee.Datum} (h : x.quotient n y = some d) : d.isNaN = false := by
  unfold Ieee.Datum.quotient at h
  split at h <;> first | cases h | skip
  all_goals first | rfl | skip
  split at h
  · split at h
    · cases h
    · cases h; rfl
  · cases h; rfl

theorem floatBits_not_nan {op : BinOp} {k : FloatKind} {x y r : Nat} (h : floatBits op k x y = some r) : nanB k r = false := by
  unfold floatBits at h
  split at h
  · unfold Ieee.Format.add at h
    rcases hd : (k.format.read x).sum (k.format.read y) with _ | d <;> rw [hd] at h <;> cases h
    exact nanB_write k (sum_not_nan hd)
  · unfold Ieee.Format.sub at h
    rcases hd : (k.format.read x).sum (k.format.read y).opposite with _ | d <;> rw [hd] at h <;> cases h
    exact nanB_write k (sum_not_nan hd)
  · unfold Ieee.Format.mul at h
    rcases hd : (k.format.read x).product (k.format.read y) with _ | d <;> rw [hd] at h <;> cases h
    exact nanB_write k (product_not_nan hd)
  · unfold Ieee.Format.div at h
    rcases hd : (k.format.read x).quotient (k.format.fractionBits + 2) (k.format.read y) with _ | d <;> rw [hd] at h <;> cases h
    exact nanB_write k (quotient_not_nan hd)
  · cases h

/-- The bits that a question for a NaN is answered by. -/
theorem nan_cut (k : FloatKind) (t : Nat) : nanB k (match k with | .f32 => (t % 2) * 2 ^ 31 + 0x7f800000 + 1 + (t / 2) % (2 ^ 23 - 1) | .f64 => (t % 2) * 2 ^ 63 + 0x7ff0000000000000 + 1 + (t / 2) % (2 ^ 52 - 1)) = true ∧
    (match k with | .f32 => (t % 2) * 2 ^ 31 + 0x7f800000 + 1 + (t / 2) % (2 ^ 23 - 1) | .f64 => (t % 2) * 2 ^ 63 + 0x7ff0000000000000 + 1 + (t / 2) % (2 ^ 52 - 1)) < 2 ^ k.format.width := by
  have h2 : t % 2 = 0 ∨ t % 2 = 1 := by omega
  cases k
  · rw [read_nan_iff]
    have e1 : FloatKind.f32.format.infRung = 2139095040 := by decide +kernel
    have e2 : FloatKind.f32.format.signWeight = 2147483648 := by decide +kernel
    have e3 : (2 : Nat) ^ FloatKind.f32.format.width = 4294967296 := by decide +kernel
    have hq : t / 2 % (2 ^ 23 - 1) < 8388607 := Nat.mod_lt _ (by decide)
    rw [e1, e2, e3]
    simp only [decide_eq_true_iff]
    generalize t / 2 % (2 ^ 23 - 1) = q at hq
    rcases h2 with h2 | h2 <;> rw [h2] <;> omega
  · rw [read_nan_iff]
    have e1 : FloatKind.f64.format.infRung = 9218868437227405312 := by decide +kernel
    have e2 : FloatKind.f64.format.signWeight = 9223372036854775808 := by decide +kernel
    have e3 : (2 : Nat) ^ FloatKind.f64.format.width = 18446744073709551616 := by decide +kernel
    have hq : t / 2 % (2 ^ 52 - 1) < 4503599627370495 := Nat.mod_lt _ (by decide)
    rw [e1, e2, e3]
    simp only [decide_eq_true_iff]
    generalize t / 2 % (2 ^ 52 - 1) = q at hq
    rcases h2 with h2 | h2 <;> rw [h2] <;> omega

/-! ### A float32 is a float64 -/
theorem read_word (f : Ieee.Format) (neg : Bool) {r : Nat} (h : r < f.infRung) : (f.read (f.word neg r)).isInfinity = false := by
  have hlt := f.infRung_lt
  have hm : f.word neg r % f.signWeight = r := by
    unfold Ieee.Format.word
    have hr : r % f.signWeight = r := Nat.mod_eq_of_lt (by omega)
    cases neg
    · simpa using hr
    · simpa using hr
  unfold Ieee.Format.read
  simp only [hm]
  by_cases hb : r < f.binade
  · simp only [if_pos hb]; rfl
  · simp only [if_neg hb, if_pos h]; rfl

theorem cut_zero (neg : Bool) (n : Nat) : Ieee.Toward.even.cut neg n 0 = n := by
  unfold Ieee.Toward.cut
  have : n % 1 = 0 := Nat.mod_one n
  simp [this]

theorem widen (neg : Bool) (m : Nat) (e : Int) (hm : m < 2 ^ 24) (h1 : -149 ≤ e) (h2 : e ≤ 104) : (Ieee.double.read (Ieee.double.write (.number neg m e))).isInfinity = false := by
  show (Ieee.double.read (Ieee.double.nearest neg m e)).isInfinity = false
  unfold Ieee.Format.nearest
  by_cases h0 : m = 0
  · rw [if_pos h0]; exact read_word _ _ (by decide)
  · rw [if_neg h0]
    have hl : m.log2 ≤ 23 := by
      have : m.log2 < 24 := (Nat.log2_lt h0).2 hm
      omega
    have hlm : m < 2 ^ (m.log2 + 1) := Nat.lt_log2_self
    have hlp : Ieee.double.leastPlace = -1074 := by decide
    have hfb : (Ieee.double.fractionBits : Int) = 52 := rfl
    have hlast : max (e + m.log2 - Ieee.double.fractionBits) (-1074) = e + m.log2 - 52 := by
      rw [hfb]; omega
    rw [hlp]
    simp only [hlast]
    have e1 : (e - (e + m.log2 - 52)).toNat = 52 - m.log2 := by omega
    have e2 : (e + m.log2 - 52 - e).toNat = 0 := by omega
    rw [e1, e2, cut_zero]
    have hk : m <<< (52 - m.log2) < 2 ^ 53 := by
      rw [Nat.shiftLeft_eq]
      have : m * 2 ^ (52 - m.log2) < 2 ^ (m.log2 + 1) * 2 ^ (52 - m.log2) := Nat.mul_lt_mul_of_pos_right hlm (Nat.two_pow_pos _)
      rw [← Nat.pow_add, show m.log2 + 1 + (52 - m.log2) = 53 by omega] at this
      exact this
    have hb : Ieee.double.binade = 2 ^ 52 := by decide
    have hi : Ieee.double.infRung = 2047 * 2 ^ 52 := by decide
    have hq : (e + m.log2 - 52 - -1074).toNat ≤ 1149 := by omega
    have hp : (e + m.log2 - 52 - -1074).toNat * 2 ^ 52 ≤ 1149 * 2 ^ 52 := Nat.mul_le_mul_right _ hq
    have hlt : (e + m.log2 - 52 - -1074).toNat * Ieee.double.binade + m <<< (52 - m.log2) < Ieee.double.infRung := by
      rw [hb, hi]; omega
    rw [Nat.min_eq_left (Nat.le_of_lt hlt)]
    exact read_word _ _ hlt

theorem fcv_up (x : Nat) : ∃ r, fcv .f32 .f64 x = some r := by
  unfold fcv
  by_cases hn : nanB .f32 x = true
  · rw [if_pos hn]; exact ⟨_, rfl⟩
  · rw [if_neg hn]
    unfold floatToFloatBits
    rw [if_neg (by intro h; cases h)]
    split
    · rename_i s f hd
      exfalso
      apply hn
      unfold nanB
      rw [hd]; rfl
    · exact ⟨_, rfl⟩
    · rename_i s m e hd
      have key : m < 2 ^ 24 ∧ -149 ≤ e ∧ e ≤ 104 := by
        have hd : Ieee.single.read x = .number s m e := hd
        have hlp : Ieee.single.leastPlace = -149 := by decide
        have hbi : Ieee.single.binade = 8388608 := by decide
        have hin : Ieee.single.infRung = 2139095040 := by decide
        unfold Ieee.Format.read at hd
        simp only [hlp, hbi, hin] at hd
        split at hd
        · cases hd
          refine ⟨?_, by omega, by omega⟩
          have : (2 : Nat) ^ 24 = 16777216 := by decide
          omega
        · split at hd
          · cases hd
            have : (2 : Nat) ^ 24 = 16777216 := by decide
            refine ⟨?_, by omega, ?_⟩ <;> omega
          · split at hd <;> cases hd
      have := widen s m e key.1 key.2.1 key.2.2
      have hw : ((FloatKind.f64).decode ((FloatKind.f64).encode (.number s m e))).isInfinity = false := this
      rw [hw]
      exact ⟨_, rfl⟩
end Go.Rf
