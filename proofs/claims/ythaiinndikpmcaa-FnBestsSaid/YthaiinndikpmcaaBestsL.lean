/-
  Plain laws.
-/
import Derived.Test.YthaiinndikpmcaaBestsP
set_option linter.unusedVariables false
set_option linter.unusedSimpArgs false
set_option maxRecDepth 100000
set_option maxHeartbeats 4000000
namespace Go.Rf
open Go
theorem srung_word (k : FloatKind) (s : Bool) {r : Nat} (h : r ≤ k.format.infRung) : srung k.format (k.format.word s r) = sg s r := by
  unfold srung
  rw [(word_rg k.format s h).1, (word_rg k.format s h).2]
theorem srung_vl {k : FloatKind} (x : Nat) : srung k.format x = sg (nn k x) (rg k.format x) := rfl
theorem round_ge {k : FloatKind} {a : Nat} {V : Int} {s t : Bool} (ha : finW k a = true) (h : vl k a ≤ V) : srung k.format a ≤ sg (sgn0 s t V) (rnd k.format V.natAbs (lp k)) := by
  have hr := finW_lt ha
  have hlp : lp k + ((0 : Nat) : Int) = k.format.leastPlace + ((0 : Nat) : Int) := rfl
  rw [srung_vl]
  unfold vl at h
  have hm : mg k a = rungV k.format (rg k.format a) := rfl
  by_cases h0 : V = 0
  · subst h0
    have hz : (0 : Int).natAbs = 0 := rfl
    rw [hz, rnd_zero]
    cases hn : nn k a
    · rw [hn] at h
      have h1 : mg k a = 0 := by simp [sg] at h; omega
      have h2 : rg k.format a = 0 := by
        by_cases e : rg k.format a = 0
        · exact e
        · have := rungV_lt k.format (show 0 < rg k.format a by omega)
          rw [rungV_zero, ← hm] at this; omega
      rw [h2]; simp [sg]
    · simp [sg]
  · unfold sgn0
    rw [if_neg h0]
    by_cases hV : V < 0
    · rw [decide_eq_true hV]
      cases hn : nn k a
      · rw [hn] at h; simp [sg] at h; omega
      · rw [hn] at h
        simp only [sg, if_true] at h ⊢
        have : rnd k.format V.natAbs (lp k) ≤ rg k.format a := rnd_le k.format (u := 0) (v := 0) hlp (by rw [Nat.pow_zero, Nat.mul_one, Nat.mul_one, ← hm]; omega)
        omega
    · rw [decide_eq_false hV]
      cases hn : nn k a
      · rw [hn] at h
        simp only [sg, Bool.false_eq_true, if_false] at h ⊢
        have : rg k.format a ≤ rnd k.format V.natAbs (lp k) := le_rnd k.format (u := 0) (v := 0) (by omega) hlp (by rw [Nat.pow_zero, Nat.mul_one, Nat.mul_one, ← hm]; omega)
        omega
      · simp only [sg, Bool.false_eq_true, if_false, if_true]
        omega
theorem round_le {k : FloatKind} {a : Nat} {V : Int} {s t : Bool} (ha : finW k a = true) (h : V ≤ vl k a) : sg (sgn0 s t V) (rnd k.format V.natAbs (lp k)) ≤ srung k.format a := by
  have hr := finW_lt ha
  have hlp : lp k + ((0 : Nat) : Int) = k.format.leastPlace + ((0 : Nat) : Int) := rfl
  rw [srung_vl]
  unfold vl at h
  have hm : mg k a = rungV k.format (rg k.format a) := rfl
  by_cases h0 : V = 0
  · subst h0
    have hz : (0 : Int).natAbs = 0 := rfl
    rw [hz, rnd_zero]
    cases hn : nn k a
    · simp [sg]
    · rw [hn] at h
      have h1 : mg k a = 0 := by simp [sg] at h; omega
      have h2 : rg k.format a = 0 := by
        by_cases e : rg k.format a = 0
        · exact e
        · have := rungV_lt k.format (show 0 < rg k.format a by omega)
          rw [rungV_zero, ← hm] at this; omega
      rw [h2]; simp [sg]
  · unfold sgn0
    rw [if_neg h0]
    by_cases hV : V < 0
    · rw [decide_eq_true hV]
      cases hn : nn k a
      · simp only [sg, Bool.false_eq_true, if_false, if_true]
        omega
      · rw [hn] at h
        simp only [sg, if_true] at h ⊢
        have : rg k.format a ≤ rnd k.format V.natAbs (lp k) := le_rnd k.format (u := 0) (v := 0) (by omega) hlp (by rw [Nat.pow_zero, Nat.mul_one, Nat.mul_one, ← hm]; omega)
        omega
    · rw [decide_eq_false hV]
      cases hn : nn k a
      · rw [hn] at h
        simp only [sg, Bool.false_eq_true, if_false] at h ⊢
        have : rnd k.format V.natAbs (lp k) ≤ rg k.format a := rnd_le k.format (u := 0) (v := 0) hlp (by rw [Nat.pow_zero, Nat.mul_one, Nat.mul_one, ← hm]; omega)
        omega
      · rw [hn] at h; simp [sg] at h; omega
theorem sum_ge {k : FloatKind} {x y a : Nat} (hx : finW k x = true) (hy : finW k y = true) (ha : finW k a = true) (h : vl k a ≤ vl k x + vl k y) : srung k.format a ≤ srung k.format (fop .add k x y) := by
  rw [add_word hx hy, srung_word _ _ (rnd_inf _ _ _)]
  exact round_ge ha h
theorem sum_le {k : FloatKind} {x y a : Nat} (hx : finW k x = true) (hy : finW k y = true) (ha : finW k a = true) (h : vl k x + vl k y ≤ vl k a) : srung k.format (fop .add k x y) ≤ srung k.format a := by
  rw [add_word hx hy, srung_word _ _ (rnd_inf _ _ _)]
  exact round_le ha h
theorem rnd_lp (f : Ieee.Format) {m : Nat} (hm : m ≠ 0) : rnd f m f.leastPlace = min ((m.log2 - f.fractionBits) * f.binade + Ieee.Toward.even.cut false m (m.log2 - f.fractionBits)) f.infRung := by
  unfold rnd Ieee.Format.nearest
  rw [if_neg hm]
  refine (word_rg f false (Nat.min_le_right _ _)).1.trans ?_
  have e1 : (max (f.leastPlace + (m.log2 : Int) - f.fractionBits) f.leastPlace - f.leastPlace).toNat = m.log2 - f.fractionBits := by omega
  have e2 : (f.leastPlace - max (f.leastPlace + (m.log2 : Int) - f.fractionBits) f.leastPlace).toNat = 0 := by omega
  rw [e1, e2, Nat.shiftLeft_zero]
theorem log2_dbl {m : Nat} (hm : m ≠ 0) : (m * 2).log2 = m.log2 + 1 := by
  have := log2_mul_pow 1 hm
  simpa using this
theorem rnd_dbl (f : Ieee.Format) (m : Nat) (h : rnd f m f.leastPlace + f.binade < f.infRung) : rungV f (rnd f (m * 2) f.leastPlace) = 2 * rungV f (rnd f m f.leastPlace) ∧ rnd f (m * 2) f.leastPlace < f.infRung := by
  by_cases hm : m = 0
  · subst hm
    rw [Nat.zero_mul, rnd_zero, rungV_zero]
    exact ⟨rfl, by rw [rnd_zero] at h; omega⟩
  · have hm2 : m * 2 ≠ 0 := by omega
    have hbin : f.binade = 2 ^ f.fractionBits := rfl
    have hb := binade_pos f
    have hlo : 2 ^ m.log2 ≤ m := Nat.log2_self_le hm
    have hhi : m < 2 ^ (m.log2 + 1) := Nat.lt_log2_self
    rw [rnd_lp f hm] at h ⊢
    rw [rnd_lp f hm2, log2_dbl hm]
    by_cases hl : f.fractionBits ≤ m.log2
    · obtain ⟨d, hd⟩ : ∃ d, m.log2 = f.fractionBits + d := ⟨m.log2 - f.fractionBits, by omega⟩
      rw [hd, show f.fractionBits + d - f.fractionBits = d by omega] at h ⊢
      rw [show f.fractionBits + d + 1 - f.fractionBits = d + 1 by omega]
      have hc : Ieee.Toward.even.cut false (m * 2) (d + 1) = Ieee.Toward.even.cut false m d := by
        have := cut_scale false m d 1 hm
        simpa using this
      rw [hc]
      have q1 : f.binade ≤ Ieee.Toward.even.cut false m d := le_cut false (by rw [hbin, ← Nat.pow_add, ← hd]; exact hlo)
      have q2 : Ieee.Toward.even.cut false m d ≤ 2 * f.binade := cut_le false (by
        have : 2 * f.binade * 2 ^ d = 2 ^ (m.log2 + 1) := by rw [hbin, hd, Nat.pow_succ, Nat.pow_add]; simp only [Nat.mul_comm, Nat.mul_left_comm]
        rw [this]; omega)
      generalize Ieee.Toward.even.cut false m d = q at *
      have e1 : min (d * f.binade + q) f.infRung = d * f.binade + q := by omega
      have e2 : (d + 1) * f.binade = d * f.binade + f.binade := by rw [Nat.add_mul, Nat.one_mul]
      rw [e1] at h ⊢
      have e3 : min ((d + 1) * f.binade + q) f.infRung = (d + 1) * f.binade + q := by omega
      rw [e3, rungV_split f (.inr q1) q2, rungV_split f (.inr q1) q2, Nat.pow_succ]
      refine ⟨by simp only [Nat.mul_comm, Nat.mul_left_comm], by omega⟩
    · rw [show m.log2 - f.fractionBits = 0 by omega] at h ⊢
      rw [show m.log2 + 1 - f.fractionBits = 0 by omega]
      have c1 : Ieee.Toward.even.cut false m 0 = m := by have := cut_exact false m 0 hm; simpa using this
      have c2 : Ieee.Toward.even.cut false (m * 2) 0 = m * 2 := by have := cut_exact false (m * 2) 0 hm2; simpa using this
      rw [c1] at h ⊢
      rw [c2]
      have hmb : m < f.binade := by
        rw [hbin]
        exact Nat.lt_of_lt_of_le hhi (Nat.pow_le_pow_right (by decide) (by omega))
      rw [Nat.zero_mul, Nat.zero_add] at h ⊢
      rw [Nat.zero_add]
      have e1 : min m f.infRung = m := by omega
      rw [e1] at h ⊢
      have e3 : min (m * 2) f.infRung = m * 2 := by omega
      have r1 := rungV_split f (d := 0) (q := m) (.inl rfl) (by omega)
      have r2 := rungV_split f (d := 0) (q := m * 2) (.inl rfl) (by omega)
      simp only [Nat.zero_mul, Nat.zero_add, Nat.pow_zero, Nat.mul_one] at r1 r2
      rw [e3, r1, r2]
      exact ⟨by omega, by omega⟩
theorem rnd_place (f : Ieee.Format) {m s : Nat} {place : Int} (hp : place + (s : Int) = f.leastPlace) (hm : f.binade * 2 ^ s ≤ m) : rnd f m place = min ((m.log2 - f.fractionBits - s) * f.binade + Ieee.Toward.even.cut false m (m.log2 - f.fractionBits)) f.infRung := by
  have hb := binade_pos f
  have hps := Nat.two_pow_pos s
  have hm0 : m ≠ 0 := by
    rintro rfl
    have := Nat.mul_pos hb hps
    omega
  have hlog : f.fractionBits + s ≤ m.log2 := by
    rw [Nat.le_log2 hm0, Nat.pow_add]
    exact hm
  unfold rnd Ieee.Format.nearest
  rw [if_neg hm0]
  refine (word_rg f false (Nat.min_le_right _ _)).1.trans ?_
  have e1 : (max (place + (m.log2 : Int) - f.fractionBits) f.leastPlace - f.leastPlace).toNat = m.log2 - f.fractionBits - s := by omega
  have e2 : (place - max (place + (m.log2 : Int) - f.fractionBits) f.leastPlace).toNat = 0 := by omega
  have e3 : (max (place + (m.log2 : Int) - f.fractionBits) f.leastPlace - place).toNat = m.log2 - f.fractionBits := by omega
  rw [e1, e2, e3, Nat.shiftLeft_zero]
theorem rnd_dbl2 (f : Ieee.Format) {m s : Nat} {place : Int} (hp : place + (s : Int) = f.leastPlace) (hm : m = 0 ∨ f.binade * 2 ^ s ≤ m) (h : rnd f m place + f.binade < f.infRung) : rungV f (rnd f (m * 2) place) = 2 * rungV f (rnd f m place) ∧ rnd f (m * 2) place < f.infRung := by
  rcases hm with rfl | hm
  · rw [Nat.zero_mul, rnd_zero, rungV_zero]
    exact ⟨rfl, by rw [rnd_zero] at h; omega⟩
  · have hb := binade_pos f
    have hps := Nat.two_pow_pos s
    have hm0 : m ≠ 0 := by
      rintro rfl
      have := Nat.mul_pos hb hps
      omega
    have hlog : f.fractionBits + s ≤ m.log2 := by
      rw [Nat.le_log2 hm0, Nat.pow_add]
      exact hm
    have hbin : f.binade = 2 ^ f.fractionBits := rfl
    have hlo : 2 ^ m.log2 ≤ m := Nat.log2_self_le hm0
    have hhi : m < 2 ^ (m.log2 + 1) := Nat.lt_log2_self
    rw [rnd_place f hp hm] at h ⊢
    rw [rnd_place f hp (show f.binade * 2 ^ s ≤ m * 2 by omega), log2_dbl hm0]
    obtain ⟨d, hd⟩ : ∃ d, m.log2 = f.fractionBits + s + d := ⟨m.log2 - f.fractionBits - s, by omega⟩
    rw [hd, show f.fractionBits + s + d - f.fractionBits - s = d by omega, show f.fractionBits + s + d - f.fractionBits = s + d by omega] at h ⊢
    rw [show f.fractionBits + s + d + 1 - f.fractionBits - s = d + 1 by omega, show f.fractionBits + s + d + 1 - f.fractionBits = s + d + 1 by omega]
    have hc : Ieee.Toward.even.cut false (m * 2) (s + d + 1) = Ieee.Toward.even.cut false m (s + d) := by
      have := cut_scale false m (s + d) 1 hm0
      simpa using this
    rw [hc]
    have q1 : f.binade ≤ Ieee.Toward.even.cut false m (s + d) := le_cut false (by rw [hbin, ← Nat.pow_add, show f.fractionBits + (s + d) = m.log2 by omega]; exact hlo)
    have q2 : Ieee.Toward.even.cut false m (s + d) ≤ 2 * f.binade := cut_le false (by
      have : 2 * f.binade * 2 ^ (s + d) = 2 ^ (m.log2 + 1) := by rw [hbin, hd, Nat.pow_succ, Nat.add_assoc, Nat.pow_add 2 f.fractionBits]; simp only [Nat.mul_comm, Nat.mul_left_comm, Nat.mul_assoc]
      rw [this]; omega)
    generalize Ieee.Toward.even.cut false m (s + d) = q at *
    have e1 : min (d * f.binade + q) f.infRung = d * f.binade + q := by omega
    have e2 : (d + 1) * f.binade = d * f.binade + f.binade := by rw [Nat.add_mul, Nat.one_mul]
    rw [e1] at h ⊢
    have e3 : min ((d + 1) * f.binade + q) f.infRung = (d + 1) * f.binade + q := by omega
    rw [e3, rungV_split f (.inr q1) q2, rungV_split f (.inr q1) q2, Nat.pow_succ]
    exact ⟨by simp only [Nat.mul_comm, Nat.mul_left_comm], by omega⟩
def two (k : FloatKind) (x y : Nat) : Prop := finW k x = true ∧ finW k y = true ∧ nn k y = nn k x ∧ mg k y = 2 * mg k x
theorem two_vl {k : FloatKind} {x y : Nat} (h : two k x y) : vl k y = 2 * vl k x := by
  obtain ⟨_, _, h1, h2⟩ := h
  unfold vl
  rw [h1, h2]
  cases nn k x <;> simp [sg] <;> omega
theorem two_add {k : FloatKind} {x x' y y' : Nat} (hx : two k x x') (hy : two k y y') (h : rg k.format (fop .add k x y) + k.format.binade < k.format.infRung) : two k (fop .add k x y) (fop .add k x' y') := by
  have v1 := two_vl hx; have v2 := two_vl hy
  obtain ⟨f1, f2, n1, _⟩ := hx
  obtain ⟨f3, f4, n2, _⟩ := hy
  rw [add_word f1 f3] at h ⊢
  rw [add_word f2 f4, v1, v2, n1, n2]
  rw [rg_word _ _ (rnd_inf _ _ _)] at h
  have e : (2 * vl k x + 2 * vl k y).natAbs = (vl k x + vl k y).natAbs * 2 := by omega
  have es : sgn0 (nn k x) (nn k y) (2 * vl k x + 2 * vl k y) = sgn0 (nn k x) (nn k y) (vl k x + vl k y) := by
    unfold sgn0
    by_cases h0 : vl k x + vl k y = 0
    · rw [if_pos h0, if_pos (by omega)]
    · rw [if_neg h0, if_neg (by omega)]
      by_cases h1 : vl k x + vl k y < 0
      · rw [decide_eq_true h1, decide_eq_true (by omega)]
      · rw [decide_eq_false h1, decide_eq_false (by omega)]
  rw [e, es]
  obtain ⟨g1, g2⟩ := rnd_dbl k.format _ h
  refine ⟨?_, ?_, ?_, ?_⟩
  · unfold finW; rw [rg_word _ _ (rnd_inf _ _ _)]; exact decide_eq_true (by have : rnd k.format (vl k x + vl k y).natAbs k.format.leastPlace + k.format.binade < k.format.infRung := h; show rnd k.format _ k.format.leastPlace < _; omega)
  · unfold finW; rw [rg_word _ _ (rnd_inf _ _ _)]; exact decide_eq_true g2
  · rw [nn_word _ _ (rnd_inf _ _ _), nn_word _ _ (rnd_inf _ _ _)]
  · rw [mg_word _ _ (rnd_inf _ _ _), mg_word _ _ (rnd_inf _ _ _)]; exact g1
theorem two_mul {k : FloatKind} {f x x' s : Nat} (hf : finW k f = true) (hx : two k x x') (hs : lp k + (s : Int) = 0) (hm : mg k f * mg k x = 0 ∨ k.format.binade * 2 ^ s ≤ mg k f * mg k x) (h : rg k.format (fop .mul k f x) + k.format.binade < k.format.infRung) : two k (fop .mul k f x) (fop .mul k f x') := by
  obtain ⟨f1, f2, n1, m1⟩ := hx
  rw [mul_word hf f1] at h ⊢
  rw [mul_word hf f2, n1, m1]
  rw [rg_word _ _ (rnd_inf _ _ _)] at h
  have e : mg k f * (2 * mg k x) = mg k f * mg k x * 2 := by rw [← Nat.mul_assoc, Nat.mul_comm (mg k f) 2, Nat.mul_assoc, Nat.mul_comm 2]
  rw [e]
  obtain ⟨g1, g2⟩ := rnd_dbl2 k.format (s := s) (place := lp k + lp k) (by unfold lp at *; omega) hm h
  have hlt : rnd k.format (mg k f * mg k x) (lp k + lp k) < k.format.infRung := by omega
  refine ⟨?_, ?_, ?_, ?_⟩
  · unfold finW; rw [rg_word _ _ (rnd_inf _ _ _)]; exact decide_eq_true hlt
  · unfold finW; rw [rg_word _ _ (rnd_inf _ _ _)]; exact decide_eq_true g2
  · rw [nn_word _ _ (rnd_inf _ _ _), nn_word _ _ (rnd_inf _ _ _)]
  · rw [mg_word _ _ (rnd_inf _ _ _), mg_word _ _ (rnd_inf _ _ _)]; exact g1
theorem mul_unit {f c : Nat} (hf : rg FloatKind.f32.format f ≤ 1065353216) (hn : nn .f32 f = false) (hc : finW .f32 c = true) : finW .f32 (fop .mul .f32 f c) = true ∧ nn .f32 (fop .mul .f32 f c) = nn .f32 c ∧ mg .f32 (fop .mul .f32 f c) ≤ mg .f32 c := by
  have hff : finW .f32 f = true := finW_of hf (by decide)
  have h1 : mg .f32 f ≤ 2 ^ 149 := Nat.le_trans (mg_le hf) (by decide +kernel)
  rw [mul_word hff hc, hn]
  have hr : rnd FloatKind.f32.format (mg .f32 f * mg .f32 c) (lp .f32 + lp .f32) ≤ rg FloatKind.f32.format c := by
    refine rnd_le FloatKind.f32.format (u := 0) (v := 149) (by decide) ?_
    rw [Nat.pow_zero, Nat.mul_one, Nat.mul_comm]
    exact Nat.mul_le_mul_left _ h1
  refine ⟨?_, ?_, ?_⟩
  · unfold finW
    rw [rg_word _ _ (rnd_inf _ _ _)]
    exact decide_eq_true (Nat.lt_of_le_of_lt hr (finW_lt hc))
  · rw [nn_word _ _ (rnd_inf _ _ _)]; simp
  · rw [mg_word _ _ (rnd_inf _ _ _)]
    exact rungV_le _ hr
theorem mix_between {a b f : Nat} (ha : finW .f32 a = true) (hb : finW .f32 b = true) (hf : rg FloatKind.f32.format f ≤ 1065353216) (hn : nn .f32 f = false) (hc : finW .f32 (fop .sub .f32 b a) = true) (hd : vl .f32 (fop .sub .f32 b a) = vl .f32 b - vl .f32 a) :
    (vl .f32 a ≤ vl .f32 b → srung FloatKind.f32.format a ≤ srung FloatKind.f32.format (fop .add .f32 a (fop .mul .f32 f (fop .sub .f32 b a))) ∧ srung FloatKind.f32.format (fop .add .f32 a (fop .mul .f32 f (fop .sub .f32 b a))) ≤ srung FloatKind.f32.format b) ∧
    (vl .f32 b ≤ vl .f32 a → srung FloatKind.f32.format b ≤ srung FloatKind.f32.format (fop .add .f32 a (fop .mul .f32 f (fop .sub .f32 b a))) ∧ srung FloatKind.f32.format (fop .add .f32 a (fop .mul .f32 f (fop .sub .f32 b a))) ≤ srung FloatKind.f32.format a) := by
  obtain ⟨p1, p2, p3⟩ := mul_unit hf hn hc
  generalize hp : fop .mul .f32 f (fop .sub .f32 b a) = p at *
  generalize hq : fop .sub .f32 b a = c at *
  have hv : vl .f32 p = sg (nn .f32 c) (mg .f32 p) := by unfold vl; rw [p2]
  have hvc : vl .f32 c = sg (nn .f32 c) (mg .f32 c) := rfl
  constructor
  · intro h
    have h0 : 0 ≤ vl .f32 c := by omega
    have k : 0 ≤ vl .f32 p ∧ vl .f32 p ≤ vl .f32 c := by
      rw [hv, hvc]
      rw [hvc] at h0
      revert h0
      cases nn .f32 c <;> simp only [sg, Bool.false_eq_true, if_false, if_true] <;> omega
    exact ⟨sum_ge ha p1 ha (by omega), sum_le ha p1 hb (by omega)⟩
  · intro h
    have h0 : vl .f32 c ≤ 0 := by omega
    have k : vl .f32 c ≤ vl .f32 p ∧ vl .f32 p ≤ 0 := by
      rw [hv, hvc]
      rw [hvc] at h0
      revert h0
      cases nn .f32 c <;> simp only [sg, Bool.false_eq_true, if_false, if_true] <;> omega
    exact ⟨sum_ge ha p1 hb (by omega), sum_le ha p1 ha (by omega)⟩
theorem quo_unit {x y : Nat} (hx : finW .f32 x = true) (hy : finW .f32 y = true) (sx : nn .f32 x = false) (sy : nn .f32 y = false) (h0 : 0 < mg .f32 y) (hle : mg .f32 x ≤ mg .f32 y) :
    nn .f32 (fop .quo .f32 x y) = false ∧ rg FloatKind.f32.format (fop .quo .f32 x y) ≤ 1065353216 := by
  obtain ⟨m, a, h1, h2⟩ := fin_read hx
  obtain ⟨n, b, h3, h4⟩ := fin_read hy
  have hn : n ≠ 0 := by
    rintro rfl
    rw [Nat.zero_mul] at h4
    omega
  have e : fop .quo .f32 x y = FloatKind.f32.format.nearest (nn .f32 x ^^ nn .f32 y) (2 * (m <<< (FloatKind.f32.format.fractionBits + 2 + n.log2 - m.log2) / n) + ((m <<< (FloatKind.f32.format.fractionBits + 2 + n.log2 - m.log2) % n != 0) : Bool).toNat) (lp .f32 + a - (lp .f32 + b) - (FloatKind.f32.format.fractionBits + 2 + n.log2 - m.log2 : Nat) - 1) := by
    unfold fop floatBits Ieee.Format.div
    simp only [h1, h3, Ieee.Datum.quotient]
    rw [if_neg hn]
    rfl
  have hlp : lp .f32 = -149 := by decide +kernel
  have hlp2 : FloatKind.f32.format.leastPlace = -149 := hlp
  rw [e, (nearest_word _ _ _ _).1, rg_word _ _ (rnd_inf _ _ _), nn_word _ _ (rnd_inf _ _ _), sx, sy]
  refine ⟨rfl, ?_⟩
  generalize hmore : FloatKind.f32.format.fractionBits + 2 + n.log2 - m.log2 = more
  rw [Nat.shiftLeft_eq]
  by_cases hm : m = 0
  · subst hm
    simp [rnd_zero]
  · have hD : n ≤ m * 2 ^ more := by
      have q1 : 2 ^ m.log2 ≤ m := Nat.log2_self_le hm
      have q2 : n < 2 ^ (n.log2 + 1) := Nat.lt_log2_self
      have q3 : 2 ^ (n.log2 + 1) ≤ 2 ^ (m.log2 + more) := Nat.pow_le_pow_right (by omega) (by omega)
      rw [Nat.pow_add 2 m.log2 more] at q3
      have q4 := Nat.mul_le_mul_right (2 ^ more) q1
      omega
    have key : m * 2 ^ more * 2 ^ a ≤ n * 2 ^ b * 2 ^ more := by
      rw [Nat.mul_right_comm, h2, h4]
      exact Nat.mul_le_mul_right _ hle
    generalize hDD : m * 2 ^ more = D at hD key ⊢
    have hdm := Nat.div_add_mod D n
    have hmod := Nat.mod_lt D (show 0 < n by omega)
    refine rnd_le _ (u := 149 + a) (v := b + more + 1) (by rw [hlp2, hlp]; omega) ?_
    rw [show rungV FloatKind.f32.format 1065353216 = 2 ^ 149 by decide +kernel]
    have hP : (2 * (D / n) + ((D % n != 0) : Bool).toNat) * 2 ^ a ≤ 2 * (2 ^ b * 2 ^ more) := by
      by_cases hz : D % n = 0
      · rw [hz]
        simp only [bne_self_eq_false, Bool.toNat_false, Nat.add_zero]
        have h6 : D / n * 2 ^ a ≤ 2 ^ b * 2 ^ more := by
          refine Nat.le_of_mul_le_mul_left (c := n) ?_ (by omega)
          rw [← Nat.mul_assoc, show n * (D / n) = D by omega, ← Nat.mul_assoc]
          exact key
        rw [Nat.mul_assoc]
        exact Nat.mul_le_mul_left 2 h6
      · have hbit : ((D % n != 0) : Bool).toNat = 1 := by
          have : (D % n != 0) = true := by simpa using hz
          rw [this]; rfl
        rw [hbit]
        rcases Nat.le_total a (b + more) with hab | hab
        · obtain ⟨j, hj⟩ : ∃ j, b + more = a + j := ⟨b + more - a, by omega⟩
          rw [← Nat.pow_add, hj, Nat.pow_add]
          rw [Nat.mul_assoc n, ← Nat.pow_add, hj, Nat.pow_add, ← Nat.mul_assoc, Nat.mul_right_comm] at key
          have h7 : D ≤ n * 2 ^ j := Nat.le_of_mul_le_mul_right key (Nat.two_pow_pos a)
          have h8 : D / n < 2 ^ j := by
            refine (Nat.div_lt_iff_lt_mul (by omega)).2 ?_
            rw [Nat.mul_comm]
            rcases Nat.lt_or_ge D (n * 2 ^ j) with h | h
            · exact h
            · have : D = n * 2 ^ j := by omega
              exact absurd (by rw [this, Nat.mul_mod_right]) hz
          have h9 := Nat.mul_le_mul_right (2 ^ a) (show 2 * (D / n) + 1 ≤ 2 * 2 ^ j by omega)
          refine Nat.le_trans h9 ?_
          rw [Nat.mul_assoc, Nat.mul_comm (2 ^ j)]
          exact Nat.le_refl _
        · exfalso
          obtain ⟨j, hj⟩ : ∃ j, a = b + more + j := ⟨a - (b + more), by omega⟩
          rw [hj, Nat.mul_assoc n, ← Nat.pow_add, Nat.pow_add 2 (b + more) j, Nat.mul_left_comm, Nat.mul_comm] at key
          have key2 : D * 2 ^ j ≤ n := by
            refine Nat.le_of_mul_le_mul_right (c := 2 ^ (b + more)) ?_ (Nat.two_pow_pos _)
            exact key
          have : D ≤ D * 2 ^ j := Nat.le_mul_of_pos_right _ (Nat.two_pow_pos j)
          have hDn : D = n := by omega
          exact hz (by rw [hDn, Nat.mod_self])
    generalize 2 * (D / n) + ((D % n != 0) : Bool).toNat = P at hP ⊢
    rw [Nat.pow_add 2 149 a, show P * (2 ^ 149 * 2 ^ a) = P * 2 ^ a * 2 ^ 149 by simp only [Nat.mul_assoc, Nat.mul_comm, Nat.mul_left_comm], Nat.mul_comm (2 ^ 149)]
    refine Nat.mul_le_mul_right _ (Nat.le_trans hP ?_)
    rw [Nat.pow_succ, Nat.pow_add, Nat.mul_comm]
    exact Nat.le_refl _
theorem grid_rung (f : Ieee.Format) {c e : Nat} (hc : c ≤ f.binade) (he : (e + 2) * f.binade ≤ f.infRung) : ∃ r, r < f.infRung ∧ rungV f r = c * 2 ^ e := by
  have hb := binade_pos f
  have hbin : f.binade = 2 ^ f.fractionBits := rfl
  have e2 : (e + 2) * f.binade = e * f.binade + 2 * f.binade := Nat.add_mul _ _ _
  by_cases h0 : c = 0
  · subst h0
    refine ⟨0, by omega, ?_⟩
    rw [rungV_zero, Nat.zero_mul]
  · have hlo : 2 ^ c.log2 ≤ c := Nat.log2_self_le h0
    have hhi : c < 2 ^ (c.log2 + 1) := Nat.lt_log2_self
    have hL : c.log2 ≤ f.fractionBits := by
      rcases Nat.lt_or_ge f.fractionBits c.log2 with h | h
      · have h1 : 2 ^ (f.fractionBits + 1) ≤ 2 ^ c.log2 := Nat.pow_le_pow_right (by decide) h
        rw [Nat.pow_succ, ← hbin] at h1
        omega
      · exact h
    by_cases h1 : c.log2 + e ≤ f.fractionBits
    · have hq : c * 2 ^ e ≤ 2 * f.binade := by
        have h2 : c * 2 ^ e ≤ 2 ^ (c.log2 + 1) * 2 ^ e := Nat.mul_le_mul_right _ (Nat.le_of_lt hhi)
        rw [← Nat.pow_add] at h2
        have h3 : 2 ^ (c.log2 + 1 + e) ≤ 2 ^ (f.fractionBits + 1) := Nat.pow_le_pow_right (by decide) (by omega)
        rw [Nat.pow_succ 2 f.fractionBits, ← hbin] at h3
        omega
      have hq2 : c * 2 ^ e < 2 * f.binade := by
        have h2 : c * 2 ^ e < 2 ^ (c.log2 + 1) * 2 ^ e := Nat.mul_lt_mul_of_pos_right hhi (Nat.two_pow_pos e)
        rw [← Nat.pow_add] at h2
        have h3 : 2 ^ (c.log2 + 1 + e) ≤ 2 ^ (f.fractionBits + 1) := Nat.pow_le_pow_right (by decide) (by omega)
        rw [Nat.pow_succ 2 f.fractionBits, ← hbin] at h3
        omega
      refine ⟨c * 2 ^ e, by omega, ?_⟩
      have := rungV_split f (d := 0) (q := c * 2 ^ e) (.inl rfl) hq
      simpa using this
    · obtain ⟨d, hd⟩ : ∃ d, c.log2 + e = f.fractionBits + d := ⟨c.log2 + e - f.fractionBits, by omega⟩
      obtain ⟨g, hg⟩ : ∃ g, f.fractionBits = c.log2 + g := ⟨f.fractionBits - c.log2, by omega⟩
      have q1 : f.binade ≤ c * 2 ^ g := by
        have := Nat.mul_le_mul_right (2 ^ g) hlo
        rw [← Nat.pow_add, ← hg, ← hbin] at this
        exact this
      have q2 : c * 2 ^ g ≤ 2 * f.binade := by
        have := Nat.mul_le_mul_right (2 ^ g) (Nat.le_of_lt hhi)
        rw [← Nat.pow_add, show c.log2 + 1 + g = f.fractionBits + 1 by omega, Nat.pow_succ, ← hbin] at this
        omega
      have hde : d * f.binade ≤ e * f.binade := Nat.mul_le_mul_right _ (by omega)
      have q3 : c * 2 ^ g < 2 * f.binade := by
        have := Nat.mul_lt_mul_of_pos_right hhi (Nat.two_pow_pos g)
        rw [← Nat.pow_add, show c.log2 + 1 + g = f.fractionBits + 1 by omega, Nat.pow_succ, ← hbin] at this
        omega
      refine ⟨d * f.binade + c * 2 ^ g, by omega, ?_⟩
      rw [rungV_split f (.inr q1) q2, Nat.mul_assoc, ← Nat.pow_add, show g + d = e by omega]
theorem rnd_close (f : Ieee.Format) {m e s : Nat} {place : Int} (hp : place + (s : Int) = f.leastPlace) (he : (e + 2) * f.binade ≤ f.infRung) (hm : m < f.binade * 2 ^ (e + s)) :
    rungV f (rnd f m place) * 2 ^ s ≤ m + 2 ^ (e + s) ∧ m ≤ rungV f (rnd f m place) * 2 ^ s + 2 ^ (e + s) ∧ rnd f m place < f.infRung := by
  have hP := Nat.two_pow_pos (e + s)
  have hdm := Nat.div_add_mod m (2 ^ (e + s))
  have hmod := Nat.mod_lt m hP
  have hc : m / 2 ^ (e + s) < f.binade := (Nat.div_lt_iff_lt_mul hP).2 hm
  generalize m / 2 ^ (e + s) = c at hdm hc
  rw [Nat.mul_comm] at hdm
  obtain ⟨lo, l1, l2⟩ := grid_rung f (c := c) (e := e) (by omega) he
  obtain ⟨hi, h1, h2⟩ := grid_rung f (c := c + 1) (e := e) (by omega) he
  have el : rungV f lo * 2 ^ s = c * 2 ^ (e + s) := by rw [l2, Nat.mul_assoc, ← Nat.pow_add]
  have eh : rungV f hi * 2 ^ s = c * 2 ^ (e + s) + 2 ^ (e + s) := by rw [h2, Nat.mul_assoc, ← Nat.pow_add, Nat.add_mul, Nat.one_mul]
  have a1 : lo ≤ rnd f m place := le_rnd f (u := 0) (v := s) (by omega) (by omega) (by rw [el, Nat.pow_zero, Nat.mul_one]; omega)
  have a2 : rnd f m place ≤ hi := rnd_le f (u := 0) (v := s) (by omega) (by rw [eh, Nat.pow_zero, Nat.mul_one]; omega)
  have b1 := Nat.mul_le_mul_right (2 ^ s) (rungV_le f a1)
  have b2 := Nat.mul_le_mul_right (2 ^ s) (rungV_le f a2)
  rw [el] at b1
  rw [eh] at b2
  exact ⟨by omega, by omega, by omega⟩
theorem sum_close {k : FloatKind} {x y : Nat} (e : Nat) (hx : finW k x = true) (hy : finW k y = true) (he : (e + 2) * k.format.binade ≤ k.format.infRung) (hm : (vl k x + vl k y).natAbs < k.format.binade * 2 ^ e) :
    finW k (fop .add k x y) = true ∧ (vl k (fop .add k x y) - (vl k x + vl k y)).natAbs ≤ 2 ^ e := by
  rw [add_word hx hy]
  generalize vl k x + vl k y = V at *
  obtain ⟨h1, h2, h3⟩ := rnd_close k.format (s := 0) (place := lp k) (e := e) (by unfold lp; omega) he (by simpa using hm)
  simp only [Nat.pow_zero, Nat.mul_one, Nat.add_zero] at h1 h2
  refine ⟨?_, ?_⟩
  · unfold finW; rw [rg_word _ _ (rnd_inf _ _ _)]; exact decide_eq_true h3
  · unfold vl
    rw [nn_word _ _ (rnd_inf _ _ _), mg_word _ _ (rnd_inf _ _ _)]
    unfold sgn0
    by_cases h0 : V = 0
    · subst h0
      rw [show (0 : Int).natAbs = 0 from rfl, rnd_zero, rungV_zero]
      cases (if (0 : Int) = 0 then nn k x && nn k y else decide ((0 : Int) < 0)) <;> simp [sg]
    · rw [if_neg h0]
      by_cases hV : V < 0
      · rw [decide_eq_true hV]; simp only [sg, if_true]; omega
      · rw [decide_eq_false hV]; simp only [sg, Bool.false_eq_true, if_false]; omega
theorem diff_close {k : FloatKind} {x y : Nat} (e : Nat) (hx : finW k x = true) (hy : finW k y = true) (he : (e + 2) * k.format.binade ≤ k.format.infRung) (hm : (vl k x - vl k y).natAbs < k.format.binade * 2 ^ e) :
    finW k (fop .sub k x y) = true ∧ (vl k (fop .sub k x y) - (vl k x - vl k y)).natAbs ≤ 2 ^ e := by
  rw [sub_word hx hy]
  generalize vl k x - vl k y = V at *
  obtain ⟨h1, h2, h3⟩ := rnd_close k.format (s := 0) (place := lp k) (e := e) (by unfold lp; omega) he (by simpa using hm)
  simp only [Nat.pow_zero, Nat.mul_one, Nat.add_zero] at h1 h2
  refine ⟨?_, ?_⟩
  · unfold finW; rw [rg_word _ _ (rnd_inf _ _ _)]; exact decide_eq_true h3
  · unfold vl
    rw [nn_word _ _ (rnd_inf _ _ _), mg_word _ _ (rnd_inf _ _ _)]
    unfold sgn0
    by_cases h0 : V = 0
    · subst h0
      rw [show (0 : Int).natAbs = 0 from rfl, rnd_zero, rungV_zero]
      cases (if (0 : Int) = 0 then nn k x && !nn k y else decide ((0 : Int) < 0)) <;> simp [sg]
    · rw [if_neg h0]
      by_cases hV : V < 0
      · rw [decide_eq_true hV]; simp only [sg, if_true]; omega
      · rw [decide_eq_false hV]; simp only [sg, Bool.false_eq_true, if_false]; omega
theorem sg_mul (a b : Bool) (m n : Nat) : sg a m * sg b n = sg (a ^^ b) (m * n) := by
  cases a <;> cases b <;> simp [sg, Int.natCast_mul, Int.neg_mul, Int.mul_neg]
theorem prod_close {k : FloatKind} {x y s : Nat} (e : Nat) (hs : lp k + (s : Int) = 0) (hx : finW k x = true) (hy : finW k y = true) (he : (e + 2) * k.format.binade ≤ k.format.infRung) (hm : (vl k x * vl k y).natAbs < k.format.binade * 2 ^ (e + s)) :
    finW k (fop .mul k x y) = true ∧ (vl k (fop .mul k x y) * 2 ^ s - vl k x * vl k y).natAbs ≤ 2 ^ (e + s) := by
  have hv : vl k x * vl k y = sg (nn k x ^^ nn k y) (mg k x * mg k y) := sg_mul _ _ _ _
  rw [hv, sg_abs] at hm
  rw [mul_word hx hy, hv]
  obtain ⟨h1, h2, h3⟩ := rnd_close k.format (s := s) (place := lp k + lp k) (e := e) (by unfold lp at *; omega) he hm
  refine ⟨?_, ?_⟩
  · unfold finW; rw [rg_word _ _ (rnd_inf _ _ _)]; exact decide_eq_true h3
  · unfold vl
    rw [nn_word _ _ (rnd_inf _ _ _), mg_word _ _ (rnd_inf _ _ _)]
    generalize rungV k.format (rnd k.format (mg k x * mg k y) (lp k + lp k)) = R at *
    have c2 : ((2 : Int) ^ s) = ((2 ^ s : Nat) : Int) := by simp
    rw [c2, ← sg_scale]
    cases (nn k x ^^ nn k y) <;> simp only [sg, Bool.false_eq_true, if_false, if_true] <;> omega
theorem cmp_vl (k : FloatKind) (x y : Nat) : compare (vl k x) (vl k y) = compare (srung k.format x) (srung k.format y) := cmp_sg k.format (nn k x) (nn k y) (rg k.format x) (rg k.format y)
theorem vl_lt {k : FloatKind} {x y : Nat} : vl k x < vl k y ↔ srung k.format x < srung k.format y := by
  have h := cmp_vl k x y
  rw [cmp_int, cmp_int] at h
  constructor
  · intro h1
    rw [if_pos h1] at h
    by_cases h2 : srung k.format x < srung k.format y
    · exact h2
    · rw [if_neg h2] at h
      split at h <;> cases h
  · intro h1
    rw [if_pos h1] at h
    by_cases h2 : vl k x < vl k y
    · exact h2
    · rw [if_neg h2] at h
      split at h <;> cases h
theorem vl_le {k : FloatKind} {x y : Nat} : vl k x ≤ vl k y ↔ srung k.format x ≤ srung k.format y := by
  have := @vl_lt k y x
  omega
theorem vl_eq {k : FloatKind} {x y : Nat} : vl k x = vl k y ↔ srung k.format x = srung k.format y := by
  have h1 := @vl_le k x y
  have h2 := @vl_le k y x
  omega
theorem fcmp_vl {k : FloatKind} {x y : Nat} (hx : finW k x = true) (hy : finW k y = true) :
    fcmp .eql k x y = decide (vl k x = vl k y) ∧ fcmp .neq k x y = !decide (vl k x = vl k y) ∧ fcmp .lss k x y = decide (vl k x < vl k y) ∧
    fcmp .leq k x y = decide (vl k x ≤ vl k y) ∧ fcmp .gtr k x y = decide (vl k y < vl k x) ∧ fcmp .geq k x y = decide (vl k y ≤ vl k x) := by
  obtain ⟨h1, h2, h3, h4, h5, h6⟩ := fcmp_num k (finW_nan hx) (finW_nan hy)
  rw [h1, h2, h3, h4, h5, h6]
  refine ⟨decide_eq_decide.2 vl_eq.symm, ?_, decide_eq_decide.2 vl_lt.symm, decide_eq_decide.2 vl_le.symm, decide_eq_decide.2 vl_lt.symm, decide_eq_decide.2 vl_le.symm⟩
  rw [decide_eq_decide.2 (vl_eq (k := k) (x := x) (y := y)).symm]
theorem rung_grid {f : Ieee.Format} {r : Nat} (h : r < f.infRung) : ∃ c e, c < 2 * f.binade ∧ rungV f r = c * 2 ^ e ∧ e * f.binade ≤ r := by
  have hb := binade_pos f
  unfold rungV
  by_cases h0 : r < f.binade
  · rw [if_pos h0]
    exact ⟨r, 0, by omega, by rw [Nat.pow_zero, Nat.mul_one], by omega⟩
  · rw [if_neg h0]
    have := Nat.mod_lt r hb
    have hd := Nat.div_add_mod r f.binade
    have h2 : (r / f.binade - 1) * f.binade ≤ r := by
      refine Nat.le_trans (Nat.mul_le_mul_right _ (Nat.sub_le _ _)) ?_
      rw [Nat.mul_comm]; omega
    exact ⟨f.binade + r % f.binade, r / f.binade - 1, by omega, rfl, h2⟩
theorem up_vl {x : Nat} (hx : finW .f32 x = true) : finW .f64 (fcvV .f32 .f64 x) = true ∧ vl .f64 (fcvV .f32 .f64 x) = vl .f32 x * 2 ^ 925 := by
  rw [up_eq hx]
  obtain ⟨c, e, h1, h2, h3⟩ := rung_grid (finW_lt hx)
  have hlt := finW_lt hx
  have b32 : FloatKind.f32.format.binade = 8388608 := by decide
  have i32 : FloatKind.f32.format.infRung = 2139095040 := by decide
  have b64 : FloatKind.f64.format.binade = 4503599627370496 := by decide
  have i64 : FloatKind.f64.format.infRung = 9218868437227405312 := by decide
  rw [b32] at h1 h3
  rw [i32] at hlt
  have he : e < 255 := by
    clear h2 b64 i64
    omega
  have hh : (e + 925 + 2) * 4503599627370496 ≤ 9218868437227405312 := Nat.le_trans (Nat.mul_le_mul_right _ (show e + 925 + 2 ≤ 1182 by omega)) (by decide)
  obtain ⟨r, r1, r2⟩ := grid_rung FloatKind.f64.format (c := c) (e := e + 925) (by rewrite [b64]; omega) (by rewrite [b64, i64]; exact hh)
  have hm : mg .f32 x * 2 ^ 925 = rungV FloatKind.f64.format r * 2 ^ 0 := by
    unfold mg
    rw [h2, r2, Nat.pow_add, Nat.pow_zero, Nat.mul_one, Nat.mul_assoc]
  have hr : rnd Ieee.double (mg .f32 x) (lp .f32) = r := rnd_exact FloatKind.f64.format (u := 925) (v := 0) (Nat.le_of_lt r1) (by decide +kernel) hm
  rw [hr]
  have hw : finW .f64 (Ieee.double.word (nn .f32 x) r) = true := by
    unfold finW
    have := rg_word .f64 (nn .f32 x) (Nat.le_of_lt r1)
    exact decide_eq_true (by show rg FloatKind.f64.format (FloatKind.f64.format.word _ r) < _; rw [this]; exact r1)
  refine ⟨hw, ?_⟩
  show sg (nn .f64 (FloatKind.f64.format.word (nn .f32 x) r)) (mg .f64 (FloatKind.f64.format.word (nn .f32 x) r)) = _
  rw [nn_word _ _ (Nat.le_of_lt r1), mg_word _ _ (Nat.le_of_lt r1)]
  rw [Nat.pow_zero, Nat.mul_one] at hm
  rw [← hm, sg_scale]
  unfold vl
  have c2 : ((2 ^ 925 : Nat) : Int) = (2 : Int) ^ 925 := Int.natCast_pow 2 925
  rw [c2]
theorem neg_parts {k : FloatKind} {x : Nat} (h : nanB k x = false) : rg k.format (fneg k x) = rg k.format x ∧ nn k (fneg k x) = !nn k x := by
  have e : fneg k x = x ^^^ 2 ^ (k.format.exponentBits + k.format.fractionBits) := by
    unfold fneg
    rw [h, if_neg (by decide)]
    rfl
  have hw : k.format.signWeight = 2 ^ (k.format.exponentBits + k.format.fractionBits) := by cases k <;> decide
  rw [e]
  generalize k.format.exponentBits + k.format.fractionBits = n at *
  constructor
  · show (x ^^^ 2 ^ n) % k.format.signWeight = x % k.format.signWeight
    rw [hw, Nat.xor_mod_two_pow, Nat.mod_self, Nat.xor_zero]
  · show ((x ^^^ 2 ^ n) / k.format.signWeight % 2 == 1) = !(x / k.format.signWeight % 2 == 1)
    rw [hw]
    have h1 := @Nat.testBit_xor x (2 ^ n) n
    rw [Nat.testBit_two_pow_self, Nat.testBit_eq_decide_div_mod_eq, Nat.testBit_eq_decide_div_mod_eq] at h1
    have h2 : ∀ a : Nat, (a == 1) = decide (a = 1) := fun a => rfl
    rw [h2, h2, h1]
    simp
theorem neg_vl {k : FloatKind} {x : Nat} (h : finW k x = true) : finW k (fneg k x) = true ∧ vl k (fneg k x) = -vl k x := by
  obtain ⟨h1, h2⟩ := neg_parts (finW_nan h)
  refine ⟨?_, ?_⟩
  · unfold finW; rw [h1]; exact h
  · unfold vl mg
    rw [h1, h2, sg_not]
theorem gap64 {a b : Nat} (ha : finW .f64 a = true) (hb : finW .f64 b = true) (h : (vl .f64 a - vl .f64 b).natAbs ≤ 2 ^ 1060) :
    finW .f64 (fop .sub .f64 a b) = true ∧ fcmp .gtr .f64 (fop .sub .f64 a b) 4562254508917369340 = false := by
  have hlt : (2 : Nat) ^ 1060 < FloatKind.f64.format.binade * 2 ^ 1020 := by decide +kernel
  obtain ⟨h1, h2⟩ := diff_close 1020 ha hb (by decide +kernel) (Nat.lt_of_le_of_lt h hlt)
  refine ⟨h1, ?_⟩
  rw [(fcmp_vl h1 (by decide +kernel)).2.2.2.2.1]
  have hv : ((2 ^ 1061 : Nat) : Int) ≤ vl .f64 4562254508917369340 := by decide +kernel
  have e1 : (2 : Nat) ^ 1060 + 2 ^ 1020 ≤ 2 ^ 1061 := by decide +kernel
  generalize (2 : Nat) ^ 1060 = A at *
  generalize (2 : Nat) ^ 1020 = B at *
  generalize (2 : Nat) ^ 1061 = C at *
  generalize vl .f64 4562254508917369340 = D at *
  exact decide_eq_false (by omega)
theorem sub_same {k : FloatKind} {x y x' y' : Nat} (hx : finW k x = true) (hy : finW k y = true) (hx' : finW k x' = true) (hy' : finW k y' = true) (h : vl k x - vl k y = vl k x' - vl k y') :
    finW k (fop .sub k x y) = finW k (fop .sub k x' y') ∧ vl k (fop .sub k x y) = vl k (fop .sub k x' y') := by
  rw [sub_word hx hy, sub_word hx' hy', ← h]
  generalize vl k x - vl k y = V
  refine ⟨?_, ?_⟩
  · unfold finW; rw [rg_word _ _ (rnd_inf _ _ _), rg_word _ _ (rnd_inf _ _ _)]
  · unfold vl
    rw [nn_word _ _ (rnd_inf _ _ _), mg_word _ _ (rnd_inf _ _ _), nn_word _ _ (rnd_inf _ _ _), mg_word _ _ (rnd_inf _ _ _)]
    unfold sgn0
    by_cases h0 : V = 0
    · subst h0
      rw [show (0 : Int).natAbs = 0 from rfl, rnd_zero, rungV_zero]
      have hz : ∀ s, sg s 0 = 0 := by intro s; cases s <;> rfl
      rw [hz, hz]
    · rw [if_neg h0, if_neg h0]
theorem cancel_le {a b w : Int} (hw : 0 < w) (h : a * w ≤ b * w) : a ≤ b := Int.le_of_mul_le_mul_right h hw
theorem near_law {A B P Q X Y W T : Int} (hw : 0 < W) (p1 : P * W - X ≤ T * W) (p2 : X - P * W ≤ T * W) (q1 : Q * W - Y ≤ T * W) (q2 : Y - Q * W ≤ T * W)
    (k1 : X + Y - W * (B - A) ≤ T * W) (k2 : W * (B - A) - X - Y ≤ T * W) : P + Q - (B - A) ≤ 3 * T ∧ (B - A) - P - Q ≤ 3 * T := by
  have e : W * (B - A) = (B - A) * W := Int.mul_comm _ _
  rw [e] at k1 k2
  constructor
  · refine cancel_le hw ?_
    rw [Int.sub_mul, Int.add_mul, Int.mul_assoc]
    omega
  · refine cancel_le hw ?_
    rw [Int.sub_mul, Int.sub_mul (B - A) P, Int.mul_assoc]
    omega
theorem prod_le {P X W T N : Int} (hw : 0 < W) (p1 : P * W - X ≤ T * W) (p2 : X - P * W ≤ T * W) (h1 : X ≤ N * W) (h2 : -X ≤ N * W) : P ≤ N + T ∧ -P ≤ N + T := by
  constructor
  · refine cancel_le hw ?_
    rw [Int.add_mul]
    omega
  · refine cancel_le hw ?_
    rw [Int.add_mul, Int.neg_mul]
    omega
theorem abs_two {x : Int} {n : Nat} : x.natAbs ≤ n ↔ x ≤ n ∧ -x ≤ n := by omega
set_option exponentiation.threshold 600 in
theorem mirror_near {a b f g : Nat} {T W : Nat} (hT : T = 2 ^ 130) (hW : W = 2 ^ 149) (ha : finW .f32 a = true) (hb : finW .f32 b = true) (ba : (vl .f32 a).natAbs ≤ 2097152 * T) (bb : (vl .f32 b).natAbs ≤ 2097152 * T)
    (hc : finW .f32 (fop .sub .f32 b a) = true) (hd : vl .f32 (fop .sub .f32 b a) = vl .f32 b - vl .f32 a)
    (hf : finW .f32 f = true) (hg : finW .f32 g = true) (bf : (vl .f32 f).natAbs ≤ W) (bg : (vl .f32 g).natAbs ≤ W) (hfg : 4194304 * (vl .f32 f + vl .f32 g - W).natAbs ≤ W) :
    finW .f32 (fop .add .f32 a (fop .mul .f32 f (fop .sub .f32 b a))) = true ∧
    finW .f32 (fop .add .f32 (fneg .f32 b) (fop .mul .f32 g (fop .sub .f32 (fneg .f32 a) (fneg .f32 b)))) = true ∧
    (vl .f32 (fop .add .f32 (fneg .f32 b) (fop .mul .f32 g (fop .sub .f32 (fneg .f32 a) (fneg .f32 b)))) + vl .f32 (fop .add .f32 a (fop .mul .f32 f (fop .sub .f32 b a)))).natAbs ≤ 7 * T := by
  obtain ⟨na, va⟩ := neg_vl ha
  obtain ⟨nb, vb⟩ := neg_vl hb
  obtain ⟨s1, s2⟩ := sub_same na nb hb ha (by rw [va, vb]; omega)
  rw [hc] at s1
  rw [hd] at s2
  generalize fop .sub .f32 (fneg .f32 a) (fneg .f32 b) = c' at *
  generalize fop .sub .f32 b a = c at *
  have hl : lp .f32 + ((149 : Nat) : Int) = 0 := by decide +kernel
  have hW0 : 0 < W := by rw [hW]; exact Nat.two_pow_pos _
  have hT0 : 0 < T := by rw [hT]; exact Nat.two_pow_pos _
  have bc : (vl .f32 b - vl .f32 a).natAbs ≤ 4194304 * T := by omega
  have hTW : (2 : Nat) ^ (130 + 149) = T * W := by rw [Nat.pow_add, hT, hW]
  have hbin : FloatKind.f32.format.binade * 2 ^ (130 + 149) = 8388608 * (T * W) := by rw [hTW]; rfl
  have hbin2 : FloatKind.f32.format.binade * 2 ^ 131 = 16777216 * T := by rw [hT]; decide +kernel
  have h131 : (2 : Nat) ^ 131 = 2 * T := by rw [hT]
  have hW2 : ((2 : Int) ^ 149) = (W : Int) := by rw [hW]; exact (Int.natCast_pow 2 149).symm
  have lim : ∀ x : Int, x.natAbs ≤ W → (x * (vl .f32 b - vl .f32 a)).natAbs ≤ 4194304 * (T * W) := by
    intro x hx
    rw [Int.natAbs_mul]
    have := Nat.mul_le_mul hx bc
    rw [show W * (4194304 * T) = 4194304 * (T * W) by rw [Nat.mul_left_comm, Nat.mul_comm W]] at this
    exact this
  have hTW0 : 0 < T * W := Nat.mul_pos hT0 hW0
  have m1 := lim _ bf
  have m2 := lim _ bg
  obtain ⟨p1, p2⟩ := prod_close 130 hl hf hc (by decide +kernel) (by rw [hd, hbin]; omega)
  obtain ⟨q1, q2⟩ := prod_close 130 hl hg s1 (by decide +kernel) (by rw [s2, hbin]; omega)
  rw [hd, hTW, hW2] at p2
  rw [s2, hTW, hW2] at q2
  have key : ((vl .f32 f + vl .f32 g - W) * (vl .f32 b - vl .f32 a)).natAbs ≤ T * W := by
    rw [Int.natAbs_mul]
    have := Nat.mul_le_mul hfg bc
    rw [show W * (4194304 * T) = 4194304 * (T * W) by rw [Nat.mul_left_comm, Nat.mul_comm W], Nat.mul_assoc] at this
    omega
  rw [Int.sub_mul, Int.add_mul] at key
  clear hT hW hTW hbin hW2 lim
  generalize fop .mul .f32 f c = p at *
  generalize fop .mul .f32 g c' = q at *
  generalize vl .f32 f * (vl .f32 b - vl .f32 a) = X at *
  generalize vl .f32 g * (vl .f32 b - vl .f32 a) = Y at *
  have eTW : ((T * W : Nat) : Int) = (T : Int) * W := Int.natCast_mul _ _
  have pp := abs_two.1 p2
  have qq := abs_two.1 q2
  have kk := abs_two.1 key
  have mm1 := abs_two.1 m1
  have mm2 := abs_two.1 m2
  rw [Int.natCast_mul, eTW, ← Int.mul_assoc] at mm1 mm2
  rw [eTW] at pp qq kk
  have hWi : (0 : Int) < W := by omega
  have r1 := prod_le (N := ((4194304 : Nat) : Int) * T) hWi (by omega) (by omega) mm1.1 mm1.2 (P := vl .f32 p) (T := T)
  have r2 := prod_le (N := ((4194304 : Nat) : Int) * T) hWi (by omega) (by omega) mm2.1 mm2.2 (P := vl .f32 q) (T := T)
  have r3 := near_law hWi (A := vl .f32 a) (B := vl .f32 b) (P := vl .f32 p) (Q := vl .f32 q) (X := X) (Y := Y) (T := T) (by omega) (by omega) (by omega) (by omega) (by omega) (by omega)
  clear pp qq kk mm1 mm2 key p2 q2 m1 m2
  obtain ⟨u1, u2⟩ := sum_close 131 ha p1 (by decide +kernel) (by rw [hbin2]; omega)
  obtain ⟨w1, w2⟩ := sum_close 131 nb q1 (by decide +kernel) (by rw [vb, hbin2]; omega)
  rw [vb] at w2
  rw [h131] at u2 w2
  exact ⟨u1, w1, by omega⟩
def finB (x : Nat) : Bool := fcmp .eql .f32 (fop .sub .f32 x x) 0
def leastB (x : Nat) : Bool := finB x && fcmp .geq .f32 x 0
theorem floatBits_nan {op : BinOp} {k : FloatKind} {x y : Nat} (h : nanB k x = true ∨ nanB k y = true) : floatBits op k x y = none := by
  unfold floatBits
  rcases h with h | h
  · obtain ⟨s, f, e⟩ := nan_form h
    cases op <;> simp only [Ieee.Format.add, Ieee.Format.sub, Ieee.Format.mul, Ieee.Format.div, e, sum_nan_left, product_nan_left, quotient_nan_left, Option.map_none]
  · obtain ⟨s, f, e⟩ := nan_form h
    cases op <;> simp only [Ieee.Format.add, Ieee.Format.sub, Ieee.Format.mul, Ieee.Format.div, e, sum_nan_right, product_nan_right, quotient_nan_right, Option.map_none, Ieee.Datum.opposite]
theorem fop_nan {op : BinOp} {k : FloatKind} {x y : Nat} (h : nanB k x = true ∨ nanB k y = true) : fop op k x y = qn k := by
  unfold fop
  rw [floatBits_nan h]; rfl
theorem fin_num {x : Nat} (h : finB x = true) : nanB .f32 x = false := by
  cases hn : nanB .f32 x with
  | false => rfl
  | true =>
    unfold finB at h
    rw [fop_nan (.inl hn), (fcmp_nan .f32 (.inl (nanB_qn .f32))).1] at h
    cases h
theorem nan_zero : nanB .f32 0 = false := by decide +kernel
theorem impl_IsFinite_eq (x : Nat) : z8k x = some (finB x) := rfl
theorem impl_isLeast_eq (x : Nat) : z7m x = some (leastB x) := by
  obtain ⟨h1, h2⟩ := z4g (impl_IsFinite_eq x)
  unfold z7m z7l leastB
  rw [h1, h2]
  cases finB x <;> rfl
theorem impl_areLeast_1_eq (x : Nat) : z60 x = some (!leastB x) := by
  obtain ⟨h1, h2⟩ := zls (impl_isLeast_eq x)
  unfold z60 z5w
  rw [h1, h2]; rfl
def checkV (x : Nat) : Nat := if finB x then x else 0
theorem impl_checked_eq (x : Nat) : z6d x = some (checkV x, finB x) := by
  obtain ⟨h1, h2⟩ := z4g (impl_IsFinite_eq x)
  unfold z6d z7j checkV
  rw [h1, h2]
  cases finB x <;> rfl
theorem slices_IndexFunc_areLeast {xs : List Nat} (hl : xs.length < 281474976710656) : ∃ r : Int, z1v xs.length xs = some r ∧ leI 0 r = !xs.all leastB := by
  unfold z1v z1u
  rcases scan_all (L := z0j xs.length (Int.ofNat xs.length) xs) xs leastB (g := fun i => Int.ofNat i) (e := (Int.ofNat xs.length, false))
    (fun n i hi => by
      rw [z4l]; unfold z0r; rw [ltN_t hi, okIx_t hi, ix1, addI1 (by omega)]
      simp only [gF]
      generalize xs.getD i 0 = x
      obtain ⟨h1, h2⟩ := zk0 (impl_areLeast_1_eq x)
      simp only [br_if, grd_true, h1, h2]
      rcases Bool.eq_false_or_eq_true (leastB x) with h | h <;> simp [h])
    (fun n => by rw [z4l]; unfold z0r; rw [ltN_f (Nat.le_refl _)]; rfl) hl with ⟨h1, h2⟩ | ⟨j, h2, h3, h4⟩
  · obtain ⟨g1, g2, _⟩ := z9h rfl h2
    exact ⟨Int.negSucc 0, by rw [g1, g2]; rfl, by rw [h1]; rfl⟩
  · obtain ⟨g1, g2, g3⟩ := z9f rfl h4
    exact ⟨Int.ofNat j, by rw [g1, g2, g3]; rfl, by rw [h3]; exact decide_eq_true (by simp)⟩
theorem slices_ContainsFunc_areLeast {xs : List Nat} (hl : xs.length < 281474976710656) : z1j xs.length xs = some (!xs.all leastB) := by
  obtain ⟨r, h1, h2⟩ := slices_IndexFunc_areLeast hl
  obtain ⟨g1, g2⟩ := zb8 h1
  unfold z1j z1k
  rw [pF_all, g1, g2, h2]; rfl
theorem impl_areLeast_eq {xs : List Nat} (hl : xs.length < 281474976710656) : z6x xs.length xs = some (xs.all leastB) := by
  obtain ⟨g1, g2⟩ := za1 (slices_ContainsFunc_areLeast hl)
  unfold z6x z6w
  rw [pF_all, g1, g2]
  simp [grd_true, bnot]
def fromToB (x low high : Nat) : Bool := fcmp .geq .f32 x low && fcmp .leq .f32 x high
theorem impl_isFromTo_eq (x low high : Nat) : z6s x low high = some (fromToB x low high) := by
  unfold z6s z76 fromToB
  rcases Bool.eq_false_or_eq_true (fcmp .geq .f32 x low) with h | h <;> simp [h, br_if]
theorem beqB_self (b : Bool) : beqB b b = true := by cases b <;> rfl
theorem bnot_true : bnot true = false := rfl
theorem ltN (a b : Nat) : ltI (Int.ofNat a) (Int.ofNat b) = decide (a < b) := by by_cases h : a < b <;> simp [ltI, h] <;> omega
theorem get_mem {xs : List Nat} {i : Nat} (h : i < xs.length) : xs.getD i 0 ∈ xs := by
  rw [List.getD_eq_getElem?_getD, List.getElem?_eq_getElem h]; exact List.getElem_mem _
theorem math_Floor_eq {x : Nat} (h : nanB .f64 x = false) : za3 x = some (fint .down x) := by
  unfold za3 z9u
  simp only [nanQ, h, bnot, Bool.not_false, grd_true]
theorem take_succ_getD {ys : List Nat} {i : Nat} (h : i < ys.length) : ys.take i ++ [ys.getD i 0] = ys.take (i + 1) := by
  rw [List.take_succ_eq_append_getElem h]; simp [List.getD_eq_getElem?_getD, h]
theorem okA2_1 {n : Nat} {b : List Nat} (x : Nat) (hb : b.length = n) (hn : n < 1099511627776) : okA2 n 1 4 (nF (pF [x] 0 (muN 1 1))) (nF b) 1 = true :=
  decide_eq_true ⟨by omega, by omega, by simp [nF, pF, muN], by simp [nF, hb]⟩
theorem runs {ρ : Type} {L : Nat → Int → Option ρ} {len : Nat} {e : ρ} (hs : ∀ n i, i < len → L (n + 1) (Int.ofNat i) = L n (Int.ofNat (i + 1))) (he : ∀ n, L (n + 1) (Int.ofNat len) = some e) (hl : len < 281474976710656) : L big 0 = some e := by
  have := folds (L := fun n i (_ : Unit) => L n i) (len := len) (fun _ _ => ()) (e := fun _ => e) (fun n i _ hi => hs n i hi) (fun n _ => he n) len 0 big () (by omega) (big_gt hl)
  exact this
theorem impl_areFinite_1_eq (x : Nat) : z5f x = some (!finB x) := by
  obtain ⟨h1, h2⟩ := z4g (impl_IsFinite_eq x)
  unfold z5f z5m
  rw [h1, h2]; rfl
theorem slices_IndexFunc_areFinite {xs : List Nat} (hl : xs.length < 281474976710656) : ∃ r : Int, z1o xs.length xs = some r ∧ leI 0 r = !xs.all finB := by
  unfold z1o z1n
  rcases scan_all (L := z0i xs.length (Int.ofNat xs.length) xs) xs finB (g := fun i => Int.ofNat i) (e := (Int.ofNat xs.length, false))
    (fun n i hi => by
      rw [z4j]; unfold z0p; rw [ltN_t hi, okIx_t hi, ix1, addI1 (by omega)]
      simp only [gF]
      generalize xs.getD i 0 = x
      obtain ⟨h1, h2⟩ := zi6 (impl_areFinite_1_eq x)
      simp only [br_if, grd_true, h1, h2]
      rcases Bool.eq_false_or_eq_true (finB x) with h | h <;> simp [h])
    (fun n => by rw [z4j]; unfold z0p; rw [ltN_f (Nat.le_refl _)]; rfl) hl with ⟨h1, h2⟩ | ⟨j, h2, h3, h4⟩
  · obtain ⟨g1, g2, _⟩ := z95 rfl h2
    exact ⟨Int.negSucc 0, by rw [g1, g2]; rfl, by rw [h1]; rfl⟩
  · obtain ⟨g1, g2, g3⟩ := z99 rfl h4
    exact ⟨Int.ofNat j, by rw [g1, g2, g3]; rfl, by rw [h3]; exact decide_eq_true (by simp)⟩
theorem slices_ContainsFunc_areFinite {xs : List Nat} (hl : xs.length < 281474976710656) : z1a xs.length xs = some (!xs.all finB) := by
  obtain ⟨r, h1, h2⟩ := slices_IndexFunc_areFinite hl
  obtain ⟨g1, g2⟩ := zak h1
  unfold z1a z19
  rw [pF_all, g1, g2, h2]; rfl
theorem impl_areFinite_eq {xs : List Nat} (hl : xs.length < 281474976710656) : z58 xs.length xs = some (xs.all finB) := by
  obtain ⟨g1, g2⟩ := z9d (slices_ContainsFunc_areFinite hl)
  unfold z58 z6h
  rw [pF_all, g1, g2]
  simp [grd_true, bnot]
theorem finB_eq (x : Nat) : finB x = finW .f32 x := by
  cases hn : nanB .f32 x with
  | true =>
    have h1 : finB x = false := by
      cases h : finB x with
      | false => rfl
      | true => rw [fin_num h] at hn; cases hn
    have h2 : finW .f32 x = false := by
      cases h : finW .f32 x with
      | false => rfl
      | true => rw [finW_nan h] at hn; cases hn
    rw [h1, h2]
  | false =>
    cases hf : finW .f32 x with
    | true =>
      unfold finB
      rw [sub_word hf hf]
      have h0 : (vl .f32 x - vl .f32 x).natAbs = 0 := by simp
      rw [h0, rnd_zero]
      generalize sgn0 _ _ _ = s
      cases s <;> decide +kernel
    | false =>
      have hr := inf_read hn hf
      unfold finB
      have e : fop .sub .f32 x x = qn .f32 := by
        unfold fop floatBits Ieee.Format.sub
        simp only [hr]
        cases nn .f32 x <;> simp [Ieee.Datum.opposite, Ieee.Datum.sum]
      rw [e]
      decide +kernel
theorem not_finW_nan {k : FloatKind} {x : Nat} (h : nanB k x = true) : finW k x = false := by
  cases hf : finW k x with
  | false => rfl
  | true => rw [finW_nan hf] at h; cases h
theorem qn_fin (k : FloatKind) : finW k (qn k) = false := not_finW_nan (nanB_qn k)
theorem eqN0 (i : Nat) : eqI (Int.ofNat i) 0 = decide (i = 0) := by
  unfold eqI
  by_cases h : i = 0
  · subst h; rfl
  · rw [decide_eq_false h]; exact decide_eq_false (by simp; omega)
def knotB (as : List Nat) (j : Nat) : Bool := fromToB (as.getD j 0) 3204448256 1056964608 && (decide (j = 0) || !fcmp .leq .f32 (as.getD j 0) (as.getD (j - 1) 0))
def profB (as ls ds : List Nat) (j : Nat) : Bool := knotB as j && (finB (ls.getD j 0) && leastB (ds.getD j 0))
def validProfB (as ls ds : List Nat) : Bool := decide (2 ≤ as.length) && (decide (as.length ≤ 24) && (decide (ls.length = as.length) && (decide (ds.length = as.length) && (List.range as.length).all (profB as ls ds))))
theorem range_all {n : Nat} {p : Nat → Bool} : (List.range n).all p = true ↔ ∀ j, j < n → p j = true := by simp [List.all_eq_true]
theorem geq_leq {x y : Nat} : fcmp .geq .f32 x y = fcmp .leq .f32 y x := by
  cases hx : nanB .f32 x with
  | true => rw [(fcmp_nan .f32 (.inl hx)).2.2.2.2.2, (fcmp_nan .f32 (.inr hx)).2.2.2.1]
  | false =>
    cases hy : nanB .f32 y with
    | true => rw [(fcmp_nan .f32 (.inr hy)).2.2.2.2.2, (fcmp_nan .f32 (.inl hy)).2.2.2.1]
    | false => rw [(fcmp_num .f32 hx hy).2.2.2.2.2, (fcmp_num .f32 hy hx).2.2.2.1]
theorem ltN0 (i : Nat) : ltI 0 (Int.ofNat i) = !decide (i = 0) := by
  rw [show ltI 0 (Int.ofNat i) = decide (0 < i) from ltN 0 i]
  by_cases h : i = 0
  · rw [decide_eq_true h, decide_eq_false (by omega)]; rfl
  · rw [decide_eq_false h, decide_eq_true (by omega)]; rfl
theorem subN1 {i : Nat} (h : i ≠ 0) (h2 : i < 4611686018427387904) : subI .i64 (Int.ofNat i) 1 = Int.ofNat (i - 1) := by
  have : subI .i64 (Int.ofNat i) 1 = (i : Int) - 1 := wrap64 (by simp; omega) (by simp; omega)
  rw [this]; simp; omega
theorem impl_ValidProfile_loop {as : List Nat} (hl : as.length ≤ 24) :
    z3o as.length (Int.ofNat as.length) as as.length 0 = true ∧ z37 as.length (Int.ofNat as.length) as as.length 0 = !(List.range as.length).all (knotB as) := by
  rcases scan (L := z13 as.length (Int.ofNat as.length) as as.length) (len := as.length) (knotB as) (g := fun _ => ()) (e := (Int.ofNat as.length, false))
    (fun n i hi => by
      rw [zaj]; unfold z2j
      obtain ⟨p1, q1⟩ := zfa (impl_isFromTo_eq (as.getD i 0) 3204448256 1056964608)
      rw [ltN_t hi, okIx_t hi, ix1, addI1 (by omega), ltN0]
      simp only [gF, p1, q1, grd_true, br_true]
      unfold knotB
      by_cases h0 : i = 0
      · subst h0
        cases fromToB (as.getD 0 0) 3204448256 1056964608 <;> rfl
      · rw [subN1 h0 (by omega), okIx_t (show i - 1 < as.length by omega), ix1, geq_leq, decide_eq_false h0]
        cases fromToB (as.getD i 0) 3204448256 1056964608
        · rfl
        · cases fcmp .leq .f32 (as.getD i 0) (as.getD (i - 1) 0) <;> rfl)
    (fun n => by rw [zaj]; unfold z2j; rw [ltN_f (Nat.le_refl _)]; rfl) as.length 0 big (by omega) (big_gt (by omega)) with ⟨h1, h2⟩ | ⟨j, _, h2, h3, h4⟩
  · obtain ⟨g1, g2, _⟩ := zfj rfl h2
    rw [range_all.2 fun j hj => h1 j (Nat.zero_le _) hj]
    exact ⟨g1, g2⟩
  · obtain ⟨g1, g2⟩ := zfd rfl h4
    have : (List.range as.length).all (knotB as) = false := by
      cases hh : (List.range as.length).all (knotB as) with
      | false => rfl
      | true => rw [range_all.1 hh j h2] at h3; cases h3
    rw [this]
    exact ⟨g1, g2⟩
theorem all_getD {xs : List Nat} {p : Nat → Bool} : xs.all p = true ↔ ∀ j, j < xs.length → p (xs.getD j 0) = true := by
  rw [List.all_eq_true]
  constructor
  · intro h j hj; exact h _ (get_mem hj)
  · intro h x hx
    obtain ⟨i, hi, rfl⟩ := List.getElem_of_mem hx
    have := h i hi
    simpa [List.getD_eq_getElem?_getD, hi] using this
theorem ltN2 (n : Nat) : ltI (Int.ofNat n) 2 = !decide (2 ≤ n) := by
  rw [show ltI (Int.ofNat n) 2 = decide (n < 2) from ltN n 2]
  by_cases h : 2 ≤ n
  · rw [decide_eq_true h, decide_eq_false (by omega)]; rfl
  · rw [decide_eq_false h, decide_eq_true (by omega)]; rfl
theorem gtN (c n : Nat) : ltI (Int.ofNat c) (Int.ofNat n) = !decide (n ≤ c) := by
  rw [ltN]
  by_cases h : n ≤ c
  · rw [decide_eq_true h, decide_eq_false (by omega)]; rfl
  · rw [decide_eq_false h, decide_eq_true (by omega)]; rfl
theorem neN (m n : Nat) : neI (Int.ofNat m) (Int.ofNat n) = !decide (m = n) := by
  unfold neI
  by_cases h : m = n
  · subst h; simp
  · rw [decide_eq_false h]; simp; omega
theorem impl_ValidProfile_eq {as ls ds : List Nat} (hl : ls.length < 281474976710656) (hd : ds.length < 281474976710656) : z4t as.length as ls.length ls ds.length ds = some (validProfB as ls ds) := by
  obtain ⟨p1, q1⟩ := z9k (impl_areFinite_eq hl)
  obtain ⟨p2, q2⟩ := zlc (impl_areLeast_eq hd)
  unfold z4t z4u validProfB
  rw [ltN2, show ltI 24 (Int.ofNat as.length) = !decide (as.length ≤ 24) from gtN 24 _, neN, neN]
  simp only [pF_all, p1, q1, p2, q2, grd_true]
  by_cases c1 : 2 ≤ as.length
  · by_cases c2 : as.length ≤ 24
    · by_cases c3 : ls.length = as.length
      · by_cases c4 : ds.length = as.length
        · obtain ⟨g1, g2⟩ := impl_ValidProfile_loop c2
          rw [decide_eq_true c1, decide_eq_true c2, decide_eq_true c3, decide_eq_true c4, g1, g2]
          have key : (List.range as.length).all (profB as ls ds) = (ls.all finB && (ds.all leastB && (List.range as.length).all (knotB as))) := by
            rw [Bool.eq_iff_iff, Bool.and_eq_true, Bool.and_eq_true, range_all, range_all, all_getD, all_getD, c3, c4]
            constructor
            · intro h
              refine ⟨fun j hj => ?_, fun j hj => ?_, fun j hj => ?_⟩
              all_goals have := h j hj; unfold profB at this; simp only [Bool.and_eq_true] at this
              · exact this.2.1
              · exact this.2.2
              · exact this.1
            · rintro ⟨h1, h2, h3⟩ j hj
              unfold profB
              rw [h1 j hj, h2 j hj, h3 j hj]; rfl
          rw [key]
          cases ls.all finB <;> cases ds.all leastB <;> cases (List.range as.length).all (knotB as) <;> rfl
        · rw [decide_eq_false c4]
          rw [decide_eq_true c1, decide_eq_true c2, decide_eq_true c3]; rfl
      · rw [decide_eq_false c3]
        rw [decide_eq_true c1, decide_eq_true c2]; rfl
    · rw [decide_eq_false c2]
      rw [decide_eq_true c1]; rfl
  · rw [decide_eq_false c1]; rfl
def mixed (a b s : Nat) : Nat := fop .add .f32 a (fop .mul .f32 s (fop .sub .f32 b a))
theorem validProfB_len {as ls ds : List Nat} (h : validProfB as ls ds = true) : 2 ≤ as.length ∧ as.length ≤ 24 ∧ ls.length = as.length ∧ ds.length = as.length := by
  unfold validProfB at h
  simp only [Bool.and_eq_true, decide_eq_true_eq] at h
  exact ⟨h.1, h.2.1, h.2.2.1, h.2.2.2.1⟩
theorem subself_neq (k : FloatKind) (x : Nat) : fcmp .neq k (fop .sub k x x) 0 = !finW k x := by
  cases hn : nanB k x with
  | true =>
    rw [fop_nan (.inl hn), (fcmp_nan k (.inl (nanB_qn k))).2.1, not_finW_nan hn]; rfl
  | false =>
    cases hf : finW k x with
    | true =>
      rw [sub_word hf hf]
      have h0 : (vl k x - vl k x).natAbs = 0 := by simp
      rw [h0, rnd_zero]
      generalize sgn0 _ _ _ = s
      cases k <;> cases s <;> decide +kernel
    | false =>
      have hr := inf_read hn hf
      have e : fop .sub k x x = qn k := by
        unfold fop floatBits Ieee.Format.sub
        simp only [hr]
        cases nn k x <;> simp [Ieee.Datum.opposite, Ieee.Datum.sum]
      rw [e, (fcmp_nan k (.inl (nanB_qn k))).2.1]; rfl
def rnd1 (u D p : Nat) : Nat := fop .sub .f64 4607182418800017408 (fop .quo .f64 (fop .mul .f64 u p) D)
def poly (u : Nat) : Nat := rnd1 u 4618441417868443648 (rnd1 u 4626322717216342016 (rnd1 u 4631107791820423168 (rnd1 u 4634766966517661696 (rnd1 u 4637440978796412928 (rnd1 u 4639692778610098176 (rnd1 u 4641592734702895104 (rnd1 u 4643492690795692032 4607182418800017408)))))))
theorem spec_sine_loop (u : Nat) : z1m u 4607182418800017408 8 = true ∧ z0l u 4607182418800017408 8 = poly u := by
  obtain ⟨n, hn⟩ : ∃ n, big = n + 9 := ⟨big - 9, by have := big_gt (k := 9) (by decide); omega⟩
  have step : ∀ m p (k k' : Int) D, leI 1 k = true → subI .i64 k 1 = k' → fOI .f64 (mulI .i64 (mulI .i64 2 k) (addI .i64 (mulI .i64 2 k) 1)) = D →
      z0x u (m + 1) p k = z0x u m (rnd1 u D p) k' := by
    intro m p k k' D h1 h2 h3
    rw [zai]; unfold z2l
    rw [h1, h2, h3]; rfl
  have hf : z0x u big 4607182418800017408 8 = some (poly u, 0, false) := by
    rw [hn, step (n + 8) _ 8 7 4643492690795692032 (by decide +kernel) (by decide +kernel) (by decide +kernel),
      step (n + 7) _ 7 6 4641592734702895104 (by decide +kernel) (by decide +kernel) (by decide +kernel),
      step (n + 6) _ 6 5 4639692778610098176 (by decide +kernel) (by decide +kernel) (by decide +kernel),
      step (n + 5) _ 5 4 4637440978796412928 (by decide +kernel) (by decide +kernel) (by decide +kernel),
      step (n + 4) _ 4 3 4634766966517661696 (by decide +kernel) (by decide +kernel) (by decide +kernel),
      step (n + 3) _ 3 2 4631107791820423168 (by decide +kernel) (by decide +kernel) (by decide +kernel),
      step (n + 2) _ 2 1 4626322717216342016 (by decide +kernel) (by decide +kernel) (by decide +kernel),
      step (n + 1) _ 1 0 4618441417868443648 (by decide +kernel) (by decide +kernel) (by decide +kernel)]
    rw [zai]; unfold z2l
    rw [show leI 1 0 = false from by decide +kernel]; rfl
  obtain ⟨g1, g2, _⟩ := zfe rfl hf
  exact ⟨g1, g2⟩
def halfS (r : Nat) : Nat :=
  if fcmp .gtr .f64 r 4598175219545276416 = true then fop .mul .f64 (fop .mul .f64 (fop .sub .f64 4602678819172646912 r) 4618760256179416344) (poly (fop .mul .f64 (fop .mul .f64 (fop .sub .f64 4602678819172646912 r) 4618760256179416344) (fop .mul .f64 (fop .sub .f64 4602678819172646912 r) 4618760256179416344)))
  else fop .mul .f64 (fop .mul .f64 r 4618760256179416344) (poly (fop .mul .f64 (fop .mul .f64 r 4618760256179416344) (fop .mul .f64 r 4618760256179416344)))
def sineA (q : Nat) : Nat := if fcmp .geq .f64 q 4602678819172646912 = true then fneg .f64 (halfS (fop .sub .f64 q 4602678819172646912)) else halfS q
noncomputable def zz (x : Nat) : Nat := fop .sub .f64 x (fOI .f64 (f2iV .f64 x .i64))
noncomputable def qq (x : Nat) : Nat := if fcmp .lss .f64 (zz x) 0 = true then fop .add .f64 (zz x) 4607182418800017408 else zz x
noncomputable def sineV (x : Nat) : Nat := sineA (qq x)
def smallB (x : Nat) : Bool := decide (rg FloatKind.f64.format x < 4841369599423283200)
theorem small_fin {x : Nat} (h : smallB x = true) : finW .f64 x = true := finW_of (Nat.le_of_lt (of_decide_eq_true h)) (by decide +kernel)
theorem small_whole {x : Nat} (h : smallB x = true) : mg .f64 x / 2 ^ 1074 ≤ 4503599627370496 := by
  have h1 : mg .f64 x ≤ rungV FloatKind.f64.format 4841369599423283200 := mg_le (Nat.le_of_lt (of_decide_eq_true h))
  have h2 : rungV FloatKind.f64.format 4841369599423283200 ≤ 4503599627370496 * 2 ^ 1074 := by decide +kernel
  exact div_bound _ _ 1074 (Nat.le_trans h1 h2)
theorem small_int {x : Nat} (h : smallB x = true) : f2iB .f64 x .i64 = true ∧ f2iV .f64 x .i64 = sg (nn .f64 x) (mg .f64 x / 2 ^ 1074) := by
  have hw := small_whole h
  have hi := integral_zero (small_fin h) (N := 1074) (by decide +kernel)
  generalize mg .f64 x / 2 ^ 1074 = w at hw hi ⊢
  have hi : (FloatKind.f64.decode x).integral .zero = .number (nn .f64 x) w 0 := hi
  have e : floatToIntVal .f64 x .i64 = some (sg (nn .f64 x) w) := by
    unfold floatToIntVal Ieee.Datum.toInt
    rw [hi]
    simp only [signed_sg, Nat.pow_zero, Nat.mul_one]
    have hmin : IntKind.i64.min = -9223372036854775808 := by decide
    have hmax : IntKind.i64.max = 9223372036854775807 := by decide
    rw [hmin, hmax, if_pos]
    unfold sg
    by_cases hs : nn .f64 x = true
    · rw [if_pos hs]; omega
    · rw [if_neg hs]; omega
  unfold f2iB f2iV
  rw [e, finW_nan (small_fin h)]
  exact ⟨rfl, rfl⟩
theorem zz_rg {x : Nat} (h : smallB x = true) : rg FloatKind.f64.format (zz x) ≤ 4607182418800017408 := by
  have hw := small_whole h
  obtain ⟨_, h2⟩ := small_int h
  unfold zz
  rw [h2]
  have hmd := Nat.div_add_mod (mg .f64 x) (2 ^ 1074)
  have hlt := Nat.mod_lt (mg .f64 x) (Nat.two_pow_pos 1074)
  generalize hW : mg .f64 x / 2 ^ 1074 = w at hw hmd ⊢
  obtain ⟨r, r1, r2, r3⟩ := fOI_exact (n := sg (nn .f64 x) w) (by rw [sg_abs]; omega)
  rw [sg_abs] at r3
  show rg FloatKind.f64.format (fop .sub .f64 x (floatOfInt .f64 (sg (nn .f64 x) w))) ≤ _
  rw [r2]
  have hf2 : finW .f64 (FloatKind.f64.format.word (decide (sg (nn .f64 x) w < 0)) r) = true := finW_of (by rw [rg_word _ _ (Nat.le_of_lt r1)]; exact Nat.le_refl _) r1
  rw [sub_word (small_fin h) hf2, rg_word _ _ (rnd_inf _ _ _)]
  refine rnd_le FloatKind.f64.format (u := 0) (v := 0) (by unfold lp; omega) ?_
  rw [Nat.pow_zero, Nat.mul_one, Nat.mul_one]
  have h1 : rungV FloatKind.f64.format 4607182418800017408 = 2 ^ 1074 := by decide +kernel
  rw [h1]
  have hv : vl .f64 (FloatKind.f64.format.word (decide (sg (nn .f64 x) w < 0)) r) = sg (nn .f64 x) (w * 2 ^ 1074) := by
    unfold vl
    rw [mg_word _ _ (Nat.le_of_lt r1), nn_word _ _ (Nat.le_of_lt r1), r3]
    generalize (2 : Nat) ^ 1074 = T
    unfold sg
    by_cases hs : nn .f64 x = true
    · rw [if_pos hs, if_pos hs]
      by_cases h0 : w = 0
      · subst h0; simp
      · rw [if_pos (decide_eq_true (by omega))]
    · rw [if_neg hs, if_neg hs, if_neg (by simp)]
  rw [hv]
  unfold vl
  generalize 2 ^ 1074 = T at hmd hlt ⊢
  have hm : mg .f64 x = w * T + mg .f64 x % T := by rw [Nat.mul_comm]; exact hmd.symm
  unfold sg
  by_cases hs : nn .f64 x = true
  · rw [if_pos hs, if_pos hs]; omega
  · rw [if_neg hs, if_neg hs]; omega
theorem up_fin (x : Nat) : finW .f64 (fcvV .f32 .f64 x) = finW .f32 x := by
  cases hn : nanB .f32 x with
  | true =>
    have e : fcvV .f32 .f64 x = qn .f64 := by unfold fcvV fcv; rw [hn]; rfl
    rw [e, qn_fin, not_finW_nan hn]
  | false =>
    cases hf : finW .f32 x with
    | true =>
      have h1 : rg FloatKind.f32.format x ≤ 2139095039 := by
        have := finW_lt hf
        have hi : FloatKind.f32.format.infRung = 2139095040 := by decide
        omega
      exact finW_of (up_rg (c := 5183643170566569984) (N := 925) h1 (by decide +kernel) (by decide +kernel) (by decide +kernel)) (by decide +kernel)
    | false =>
      have hr := inf_read hn hf
      have e : fcvV .f32 .f64 x = FloatKind.f64.format.word (nn .f32 x) FloatKind.f64.format.infRung := by
        obtain ⟨r, hr2⟩ := fcv_up x
        have hv : fcvV .f32 .f64 x = r := by unfold fcvV; rw [hr2]; rfl
        rw [hv]
        unfold fcv at hr2
        rw [hn] at hr2
        simp only [Bool.false_eq_true, if_false] at hr2
        unfold floatToFloatBits at hr2
        rw [if_neg (by intro h; cases h)] at hr2
        have hd : FloatKind.f32.decode x = .infinity (nn .f32 x) := hr
        rw [hd] at hr2
        simp only at hr2
        cases hr2
        rfl
      rw [e]
      unfold finW
      rw [rg_word _ _ (Nat.le_refl _)]
      exact decide_eq_false (by omega)
theorem up_is {x : Nat} (h : finW .f32 x = true) : ∃ s r, fcvV .f32 .f64 x = FloatKind.f64.format.word s r ∧ r < FloatKind.f64.format.infRung := by
  have e := up_eq h
  have hf : finW .f64 (fcvV .f32 .f64 x) = true := by rw [up_fin, h]
  refine ⟨_, _, e, ?_⟩
  have := finW_lt hf
  rw [e] at this
  have hw : rg FloatKind.f64.format (Ieee.double.word (nn .f32 x) (rnd Ieee.double (mg .f32 x) (lp .f32))) = _ := rg_word .f64 _ (rnd_inf _ _ _)
  rw [hw] at this
  exact this
theorem spec_huge {x : Nat} {s : Bool} {r : Nat} (e : x = FloatKind.f64.format.word s r) (h : r < FloatKind.f64.format.infRung) : (fcmp .geq .f64 x 4841369599423283200 || fcmp .leq .f64 x 14064741636278059008) = !smallB x := by
  have hn : nanB .f64 x = false := by rw [e]; exact nanB_word .f64 s (Nat.le_of_lt h)
  have hs : srung FloatKind.f64.format x = sg s r := by
    have h1 : rg FloatKind.f64.format x = r := by rw [e]; exact rg_word .f64 s (Nat.le_of_lt h)
    have h2 : nn .f64 x = s := by rw [e]; exact nn_word .f64 s (Nat.le_of_lt h)
    unfold srung
    rw [h1, show ngB FloatKind.f64.format x = s from h2]
  rw [(fcmp_num .f64 hn (by decide +kernel)).2.2.2.2.2, (fcmp_num .f64 hn (by decide +kernel)).2.2.2.1, hs, show srung FloatKind.f64.format 4841369599423283200 = 4841369599423283200 from by decide +kernel, show srung FloatKind.f64.format 14064741636278059008 = -4841369599423283200 from by decide +kernel]
  unfold smallB
  rw [show rg FloatKind.f64.format x = r from by rw [e]; exact rg_word .f64 s (Nat.le_of_lt h)]
  unfold sg
  by_cases hh : r < 4841369599423283200
  · rw [decide_eq_true hh]
    cases s
    · rw [if_neg (by decide), decide_eq_false (by omega), decide_eq_false (by omega)]; rfl
    · rw [if_pos rfl, decide_eq_false (by omega), decide_eq_false (by omega)]; rfl
  · rw [decide_eq_false hh]
    cases s
    · rw [if_neg (by decide), decide_eq_true (by omega)]; rfl
    · rw [if_pos rfl, decide_eq_true (p := -(r : Int) ≤ -4841369599423283200) (by omega)]
      simp
theorem rnd1_rg {u D p a b m c d B : Nat} (hu : rg FloatKind.f64.format u ≤ a) (hp : rg FloatKind.f64.format p ≤ b) (ha : a < FloatKind.f64.format.infRung) (hb : b < FloatKind.f64.format.infRung) (hm : m < FloatKind.f64.format.infRung) (hc : c < FloatKind.f64.format.infRung)
    (h1 : rungV FloatKind.f64.format a * rungV FloatKind.f64.format b ≤ rungV FloatKind.f64.format m * 2 ^ 1074) (hD : finW .f64 D = true) (hB : B ≤ mg .f64 D) (hB0 : 0 < B) (h2 : 2 * rungV FloatKind.f64.format m * 2 ^ 1074 ≤ rungV FloatKind.f64.format c * B)
    (h3 : rungV FloatKind.f64.format 4607182418800017408 + rungV FloatKind.f64.format c ≤ rungV FloatKind.f64.format d) : rg FloatKind.f64.format (rnd1 u D p) ≤ d := by
  have g1 : rg FloatKind.f64.format (fop .mul .f64 u p) ≤ m := mul_rg (N := 1074) hu hp ha hb (by decide +kernel) h1
  have g2 : rg FloatKind.f64.format (fop .quo .f64 (fop .mul .f64 u p) D) ≤ c := quo_rg (N := 1074) (finW_of g1 hm) hD (mg_le g1) hB hB0 (by decide +kernel) h2
  exact sub_rg (show rg FloatKind.f64.format 4607182418800017408 ≤ 4607182418800017408 by decide +kernel) g2 (by decide +kernel) hc h3
theorem poly_rg {u : Nat} (hu : rg FloatKind.f64.format u ≤ 4661225614328463360) : rg FloatKind.f64.format (poly u) ≤ 5039527983027585024 := by
  have g0 := rnd1_rg (a := 4661225614328463360) (b := 4607182418800017408) (m := 4661225614328463360) (c := 4656722014701092864) (d := 4661225614328463360) (B := 6 * 2 ^ 1074) (D := 4643492690795692032) hu (show rg FloatKind.f64.format 4607182418800017408 ≤ 4607182418800017408 by decide +kernel) (by decide +kernel) (by decide +kernel) (by decide +kernel) (by decide +kernel) (by decide +kernel) (by decide +kernel) (by decide +kernel) (by decide +kernel) (by decide +kernel) (by decide +kernel)
  have g1 := rnd1_rg (a := 4661225614328463360) (b := 4661225614328463360) (m := 4715268809856909312) (c := 4710765210229538816) (d := 4715268809856909312) (B := 6 * 2 ^ 1074) (D := 4641592734702895104) hu g0 (by decide +kernel) (by decide +kernel) (by decide +kernel) (by decide +kernel) (by decide +kernel) (by decide +kernel) (by decide +kernel) (by decide +kernel) (by decide +kernel) (by decide +kernel)
  have g2 := rnd1_rg (a := 4661225614328463360) (b := 4715268809856909312) (m := 4769312005385355264) (c := 4764808405757984768) (d := 4769312005385355264) (B := 6 * 2 ^ 1074) (D := 4639692778610098176) hu g1 (by decide +kernel) (by decide +kernel) (by decide +kernel) (by decide +kernel) (by decide +kernel) (by decide +kernel) (by decide +kernel) (by decide +kernel) (by decide +kernel) (by decide +kernel)
  have g3 := rnd1_rg (a := 4661225614328463360) (b := 4769312005385355264) (m := 4823355200913801216) (c := 4818851601286430720) (d := 4823355200913801216) (B := 6 * 2 ^ 1074) (D := 4637440978796412928) hu g2 (by decide +kernel) (by decide +kernel) (by decide +kernel) (by decide +kernel) (by decide +kernel) (by decide +kernel) (by decide +kernel) (by decide +kernel) (by decide +kernel) (by decide +kernel)
  have g4 := rnd1_rg (a := 4661225614328463360) (b := 4823355200913801216) (m := 4877398396442247168) (c := 4872894796814876672) (d := 4877398396442247168) (B := 6 * 2 ^ 1074) (D := 4634766966517661696) hu g3 (by decide +kernel) (by decide +kernel) (by decide +kernel) (by decide +kernel) (by decide +kernel) (by decide +kernel) (by decide +kernel) (by decide +kernel) (by decide +kernel) (by decide +kernel)
  have g5 := rnd1_rg (a := 4661225614328463360) (b := 4877398396442247168) (m := 4931441591970693120) (c := 4926937992343322624) (d := 4931441591970693120) (B := 6 * 2 ^ 1074) (D := 4631107791820423168) hu g4 (by decide +kernel) (by decide +kernel) (by decide +kernel) (by decide +kernel) (by decide +kernel) (by decide +kernel) (by decide +kernel) (by decide +kernel) (by decide +kernel) (by decide +kernel)
  have g6 := rnd1_rg (a := 4661225614328463360) (b := 4931441591970693120) (m := 4985484787499139072) (c := 4980981187871768576) (d := 4985484787499139072) (B := 6 * 2 ^ 1074) (D := 4626322717216342016) hu g5 (by decide +kernel) (by decide +kernel) (by decide +kernel) (by decide +kernel) (by decide +kernel) (by decide +kernel) (by decide +kernel) (by decide +kernel) (by decide +kernel) (by decide +kernel)
  have g7 := rnd1_rg (a := 4661225614328463360) (b := 4985484787499139072) (m := 5039527983027585024) (c := 5035024383400214528) (d := 5039527983027585024) (B := 6 * 2 ^ 1074) (D := 4618441417868443648) hu g6 (by decide +kernel) (by decide +kernel) (by decide +kernel) (by decide +kernel) (by decide +kernel) (by decide +kernel) (by decide +kernel) (by decide +kernel) (by decide +kernel) (by decide +kernel)
  exact g7
theorem rg_neg (x : Nat) (h : nanB .f64 x = false) : rg FloatKind.f64.format (fneg .f64 x) = rg FloatKind.f64.format x := by
  have e : fneg .f64 x = x ^^^ 2 ^ 63 := by
    unfold fneg
    rw [h, if_neg (by decide)]
    rfl
  rw [e]
  show (x ^^^ 2 ^ 63) % FloatKind.f64.format.signWeight = x % FloatKind.f64.format.signWeight
  rw [show FloatKind.f64.format.signWeight = 2 ^ 63 from by decide, Nat.xor_mod_two_pow, Nat.mod_self, Nat.xor_zero]
theorem halfS_rg {r : Nat} (h : rg FloatKind.f64.format r ≤ 4616189618054758400) : rg FloatKind.f64.format (halfS r) ≤ 5066549580791808000 := by
  have key : ∀ y, rg FloatKind.f64.format y ≤ 4620693217682128896 → rg FloatKind.f64.format (fop .mul .f64 (fop .mul .f64 y 4618760256179416344) (poly (fop .mul .f64 (fop .mul .f64 y 4618760256179416344) (fop .mul .f64 y 4618760256179416344)))) ≤ 5066549580791808000 := by
    intro y hy
    have g1 : rg FloatKind.f64.format (fop .mul .f64 y 4618760256179416344) ≤ 4634204016564240384 := mul_rg (N := 1074) hy (show rg FloatKind.f64.format 4618760256179416344 ≤ 4618760256179416344 by decide +kernel) (by decide +kernel) (by decide +kernel) (by decide +kernel) (by decide +kernel)
    have g2 : rg FloatKind.f64.format (fop .mul .f64 (fop .mul .f64 y 4618760256179416344) (fop .mul .f64 y 4618760256179416344)) ≤ 4661225614328463360 := mul_rg (N := 1074) g1 g1 (by decide +kernel) (by decide +kernel) (by decide +kernel) (by decide +kernel)
    exact mul_rg (N := 1074) g1 (poly_rg g2) (by decide +kernel) (by decide +kernel) (by decide +kernel) (by decide +kernel)
  unfold halfS
  split
  · exact key _ (sub_rg (show rg FloatKind.f64.format 4602678819172646912 ≤ 4602678819172646912 by decide +kernel) h (by decide +kernel) (by decide +kernel) (by decide +kernel))
  · exact key _ (Nat.le_trans h (by decide))
theorem sineV_rg {x : Nat} (h : smallB x = true) : rg FloatKind.f64.format (sineV x) ≤ 5066549580791808000 := by
  have g0 := zz_rg h
  have g1 : rg FloatKind.f64.format (qq x) ≤ 4611686018427387904 := by
    unfold qq
    split
    · exact add_rg g0 (show rg FloatKind.f64.format 4607182418800017408 ≤ 4607182418800017408 by decide +kernel) (by decide +kernel) (by decide +kernel) (by decide +kernel)
    · exact Nat.le_trans g0 (by decide)
  unfold sineV sineA
  generalize qq x = q at g1
  split
  · have g2 : rg FloatKind.f64.format (halfS (fop .sub .f64 q 4602678819172646912)) ≤ 5066549580791808000 := halfS_rg (sub_rg g1 (show rg FloatKind.f64.format 4602678819172646912 ≤ 4602678819172646912 by decide +kernel) (by decide +kernel) (by decide +kernel) (by decide +kernel))
    rw [rg_neg _ (finW_nan (finW_of g2 (by decide +kernel)))]
    exact g2
  · exact halfS_rg (Nat.le_trans g1 (by decide))
theorem sineV_down {x : Nat} (h : smallB x = true) : fcvB .f64 .f32 (sineV x) = true :=
  down_t (c := 1920991232) (N := 925) (sineV_rg h) (by decide +kernel) (by decide +kernel) (by decide +kernel) (by decide +kernel)
noncomputable def sineT (x : Nat) : Nat := if finB x = true then (if smallB (fcvV .f32 .f64 x) = true then fcvV .f64 .f32 (sineV (fcvV .f32 .f64 x)) else 0) else qn .f32
theorem math_NaN_eq : zc0 = some (qn .f64) := by
  unfold zc0 zc2
  rw [show okU .f64 9221120237041090561 = true from by decide +kernel, show cnI .f64 9221120237041090561 = qn .f64 from by decide +kernel]; rfl
theorem spec_l01SineWide_eq {x : Nat} (hb : smallB x = true) (hg : fcmp .geq .f64 x 4841369599423283200 = false) (hl : fcmp .leq .f64 x 14064741636278059008 = false) : z3f x = some (sineV x) := by
  obtain ⟨h0, _⟩ := small_int hb
  have h1 := fun u => (spec_sine_loop u).1
  have h2 := fun u => (spec_sine_loop u).2
  have h3 : fcmp .neq .f64 (fop .sub .f64 x x) 0 = false := by rw [subself_neq, small_fin hb]; rfl
  unfold z3f z43
  simp only [h0, h1, h2, h3, hg, hl, grd_true, br_false]
  unfold sineV sineA halfS qq zz
  generalize fop .sub .f64 x (fOI .f64 (f2iV .f64 x .i64)) = z
  cases fcmp .lss .f64 z 0
  · cases h5 : fcmp .geq .f64 z 4602678819172646912
    · cases hc : fcmp .gtr .f64 z 4598175219545276416 <;> simp [br, hc, h5]
    · cases hc : fcmp .gtr .f64 (fop .sub .f64 z 4602678819172646912) 4598175219545276416 <;> simp [br, hc, h5]
  · generalize fop .add .f64 z 4607182418800017408 = z
    cases h5 : fcmp .geq .f64 z 4602678819172646912
    · cases hc : fcmp .gtr .f64 z 4598175219545276416 <;> simp [br, hc, h5]
    · cases hc : fcmp .gtr .f64 (fop .sub .f64 z 4602678819172646912) 4598175219545276416 <;> simp [br, hc, h5]
theorem spec_l01Narrow_eq {x : Nat} (h : fcvB .f64 .f32 x = true) : z6b x = some (fcvV .f64 .f32 x) := by
  unfold z6b z6c
  rw [h]; rfl
theorem spec_l01Sine_eq (x : Nat) : z6e x = some (sineT x) := by
  have key : ∀ v, z3f (fcvV .f32 .f64 x) = some v → fcvB .f64 .f32 v = true → z6e x = some (fcvV .f64 .f32 v) := by
    intro v h1 h2
    obtain ⟨p1, q1⟩ := ziw h1
    obtain ⟨p2, q2⟩ := zku (spec_l01Narrow_eq h2)
    unfold z6e z7p
    rw [p1, q1, p2, q2]; rfl
  unfold sineT
  cases hf : finB x
  · have h3 : fcmp .neq .f64 (fop .sub .f64 (fcvV .f32 .f64 x) (fcvV .f32 .f64 x)) 0 = true := by
      rw [subself_neq, up_fin, ← finB_eq, hf]; rfl
    obtain ⟨p2, q2⟩ := zmr math_NaN_eq
    have := key (qn .f64) (by unfold z3f z43; rw [h3, p2, q2]; rfl) (by decide +kernel)
    rw [this, show fcvV .f64 .f32 (qn .f64) = qn .f32 from by decide +kernel]; rfl
  · have hf' := hf
    rw [finB_eq] at hf
    obtain ⟨s, r, e, hr⟩ := up_is hf
    have hh := spec_huge e hr
    have h3 : fcmp .neq .f64 (fop .sub .f64 (fcvV .f32 .f64 x) (fcvV .f32 .f64 x)) 0 = false := by
      rw [subself_neq, up_fin, hf]; rfl
    cases hs : smallB (fcvV .f32 .f64 x)
    · rw [hs] at hh
      have := key 0 (by
        unfold z3f z43
        rw [h3]
        cases hg : fcmp .geq .f64 (fcvV .f32 .f64 x) 4841369599423283200
        · rw [hg] at hh
          have hl : fcmp .leq .f64 (fcvV .f32 .f64 x) 14064741636278059008 = true := hh
          rw [hl]; rfl
        · rfl) (by decide +kernel)
      rw [this, show fcvV .f64 .f32 0 = 0 from by decide +kernel]; rfl
    · rw [hs] at hh
      have hg : fcmp .geq .f64 (fcvV .f32 .f64 x) 4841369599423283200 = false := by
        cases hg : fcmp .geq .f64 (fcvV .f32 .f64 x) 4841369599423283200 with
        | false => rfl
        | true => rw [hg] at hh; cases hh
      have hl : fcmp .leq .f64 (fcvV .f32 .f64 x) 14064741636278059008 = false := by
        rw [hg] at hh
        exact hh
      exact key _ (spec_l01SineWide_eq hs hg hl) (sineV_down hs)
def plateA (n i : Nat) : Nat := fop .sub .f32 (fop .quo .f32 (fOI .f32 (Int.ofNat i)) (fOI .f32 (subI .i64 (Int.ofNat n) 1))) 1056964608
noncomputable def plateL (n i : Nat) : Nat := fop .mul .f32 (fop .mul .f32 1073741824 (sineT (plateA n i))) (sineT (fop .add .f32 (plateA n i) 1048576000))
noncomputable def plateD (n i : Nat) : Nat := fop .mul .f32 (fop .mul .f32 1073741824 (sineT (plateA n i))) (sineT (plateA n i))
def listOf (f : Nat → Nat) (n : Nat) : List Nat := (List.range n).map f
theorem listOf_length (f : Nat → Nat) (n : Nat) : (listOf f n).length = n := by simp [listOf]
theorem listOf_succ (f : Nat → Nat) (n : Nat) : listOf f (n + 1) = listOf f n ++ [f n] := by simp [listOf, List.range_succ]
theorem spec_Plate_loop {n : Nat} (hn : n ≤ 24) :
    z0q (Int.ofNat n) big 0 0 0 0 [] [] [] = some (Int.ofNat n, false, n, n, n, listOf (plateA n) n, listOf (plateL n) n, listOf (plateD n) n) := by
  have := runs (L := fun m i => z0q (Int.ofNat n) m i i.toNat i.toNat i.toNat (listOf (plateA n) i.toNat) (listOf (plateL n) i.toNat) (listOf (plateD n) i.toNat)) (len := n) (e := (Int.ofNat n, false, n, n, n, listOf (plateA n) n, listOf (plateL n) n, listOf (plateD n) n))
    (fun m i hi => by
      show z0q _ _ _ i i i (listOf (plateA n) i) (listOf (plateL n) i) (listOf (plateD n) i) = z0q _ _ _ (i + 1) (i + 1) (i + 1) (listOf (plateA n) (i + 1)) (listOf (plateL n) (i + 1)) (listOf (plateD n) (i + 1))
      obtain ⟨p1, q1⟩ := zg3 (spec_l01Sine_eq (plateA n i))
      obtain ⟨p2, q2⟩ := zg3 (spec_l01Sine_eq (fop .add .f32 (plateA n i) 1048576000))
      rw [zc8]; unfold z3g
      rw [ltN_t hi, addI1 (by omega), okA2_1 _ (b := listOf (plateA n) i) (listOf_length _ _) (by omega), okA2_1 _ (b := listOf (plateL n) i) (listOf_length _ _) (by omega), okA2_1 _ (b := listOf (plateD n) i) (listOf_length _ _) (by omega), listOf_succ, listOf_succ, listOf_succ]
      show br _ (grd (z67 (plateA n i)) (grd (z67 (fop .add .f32 (plateA n i) 1048576000)) (grd _ (grd _ (grd _ (z0q _ _ _ _ _ _ (aF _ (pF [plateA n i] 0 (muN 1 1))) (aF _ (pF [fop .mul .f32 (fop .mul .f32 1073741824 (z2c (plateA n i))) (z2c (fop .add .f32 (plateA n i) 1048576000))] 0 (muN 1 1))) (aF _ (pF [fop .mul .f32 (fop .mul .f32 1073741824 (z2c (plateA n i))) (z2c (plateA n i))] 0 (muN 1 1))))))))) _ = _
      rw [p1, q1, p2, q2]
      rfl)
    (fun m => by
      show z0q _ _ _ n n n (listOf (plateA n) n) (listOf (plateL n) n) (listOf (plateD n) n) = _
      rw [zc8]; unfold z3g; rw [ltN_f (Nat.le_refl _)]; rfl) (by omega)
  exact this
theorem down_nan {y : Nat} (hn : nanB .f64 y = false) (h : fcvB .f64 .f32 y = true) : nanB .f32 (fcvV .f64 .f32 y) = false := by
  unfold fcvB at h
  obtain ⟨r, hr⟩ := Option.isSome_iff_exists.1 h
  have hv : fcvV .f64 .f32 y = r := by unfold fcvV; rw [hr]; rfl
  rw [hv]
  unfold fcv at hr
  rw [hn] at hr
  simp only [Bool.false_eq_true, if_false] at hr
  unfold floatToFloatBits at hr
  rw [if_neg (by intro h; cases h)] at hr
  split at hr
  · cases hr
  · cases hr
    exact nanB_word .f32 _ (Nat.le_refl _)
  · split at hr
    · cases hr
    · cases hr
      show nanB .f32 (FloatKind.f32.format.nearest _ _ _) = false
      rw [(nearest_word _ _ _ _).1]
      exact nanB_word .f32 _ (rnd_inf _ _ _)
noncomputable def wrapY (x : Nat) : Nat := fop .sub .f64 (fcvV .f32 .f64 x) (fint .down (fop .add .f64 (fcvV .f32 .f64 x) 4602678819172646912))
noncomputable def wrapV (x : Nat) : Nat := if fcmp .geq .f32 (fcvV .f64 .f32 (wrapY x)) 1056964608 = true then 3204448256 else fcvV .f64 .f32 (wrapY x)
theorem up_max {x : Nat} (h : finB x = true) : finW .f64 (fcvV .f32 .f64 x) = true ∧ rg FloatKind.f64.format (fcvV .f32 .f64 x) ≤ 5183643171103440896 := by
  rw [finB_eq] at h
  have h1 : rg FloatKind.f32.format x ≤ 2139095039 := by
    have := finW_lt h
    have hi : FloatKind.f32.format.infRung = 2139095040 := by decide
    omega
  exact ⟨by rw [up_fin, h], up_rg (N := 925) h1 (by decide +kernel) (by decide +kernel) (by decide +kernel)⟩
theorem wrapV_nan {x : Nat} (h : finB x = true) : nanB .f32 (wrapV x) = false := by
  obtain ⟨h1, h2⟩ := up_max h
  obtain ⟨w1, w2, w3⟩ := wrap_down h1 h2
  unfold wrapV
  split
  · decide +kernel
  · exact down_nan w3 w2
theorem impl_wrapAngle_eq {x : Nat} (h : finB x = true) : z6f x = some (wrapV x) := by
  obtain ⟨h1, h2⟩ := up_max h
  obtain ⟨w1, w2, w3⟩ := wrap_down h1 h2
  obtain ⟨p, q⟩ := zmf (math_Floor_eq w1)
  unfold z6f z6g wrapV wrapY
  rw [p, q, w2, br_if]
  split <;> rfl
theorem rnd_pos (f : Ieee.Format) {m : Nat} (h : 0 < m) (hi : 1 ≤ f.infRung) (hb : rungV f 1 ≤ 1) : rnd f m f.leastPlace ≠ 0 := by
  have := le_rnd f (m := m) (r := 1) (u := 0) (v := 0) (place := f.leastPlace) hi rfl (by rw [Nat.pow_zero, Nat.mul_one, Nat.mul_one]; omega)
  omega
theorem sub_zero {x y : Nat} (hx : finW .f32 x = true) (hy : finW .f32 y = true) : fcmp .eql .f32 (fop .sub .f32 x y) 0 = fcmp .eql .f32 x y := by
  have hsub := sub_word hx hy
  have hn : nanB .f32 (fop .sub .f32 x y) = false := by rw [hsub]; exact nanB_word .f32 _ (rnd_inf _ _ _)
  rw [(fcmp_num .f32 hn nan_zero).1, (fcmp_num .f32 (finW_nan hx) (finW_nan hy)).1]
  have hr : rg FloatKind.f32.format (fop .sub .f32 x y) = rnd FloatKind.f32.format (vl .f32 x - vl .f32 y).natAbs (lp .f32) := by rw [hsub]; exact rg_word _ _ (rnd_inf _ _ _)
  have h0 : srung FloatKind.f32.format 0 = 0 := by decide +kernel
  rw [h0]
  have e1 : srung FloatKind.f32.format (fop .sub .f32 x y) = 0 ↔ vl .f32 x = vl .f32 y := by
    have : srung FloatKind.f32.format (fop .sub .f32 x y) = 0 ↔ rg FloatKind.f32.format (fop .sub .f32 x y) = 0 := by
      unfold srung sg
      by_cases hs : ngB FloatKind.f32.format (fop .sub .f32 x y) = true
      · rw [if_pos hs]; omega
      · rw [if_neg hs]; omega
    rw [this, hr]
    constructor
    · intro h
      by_cases hd : (vl .f32 x - vl .f32 y).natAbs = 0
      · omega
      · exact absurd h (rnd_pos FloatKind.f32.format (by omega) (by decide) (by decide +kernel))
    · intro h
      have : (vl .f32 x - vl .f32 y).natAbs = 0 := by omega
      rw [this, rnd_zero]
  have e2 : vl .f32 x = vl .f32 y ↔ srung FloatKind.f32.format x = srung FloatKind.f32.format y := by
    have h := cmp_sg FloatKind.f32.format (nn .f32 x) (nn .f32 y) (rg FloatKind.f32.format x) (rg FloatKind.f32.format y)
    have key : ∀ a b : Int, compare a b = .eq ↔ a = b := by
      intro a b
      rw [cmp_int]
      by_cases h1 : a < b
      · rw [if_pos h1]; constructor
        · intro h; cases h
        · intro h; omega
      · rw [if_neg h1]
        by_cases h2 : a = b
        · rw [if_pos h2]; simp [h2]
        · rw [if_neg h2]; constructor
          · intro h; cases h
          · intro h; exact absurd h h2
    rw [← key, ← key]
    show compare (sg (nn .f32 x) (rungV _ _)) (sg (nn .f32 y) (rungV _ _)) = _ ↔ compare (sg _ _) (sg _ _) = _
    rw [h]; exact Iff.rfl
  exact decide_eq_decide.2 (e1.trans e2)
theorem neq_eql {x y : Nat} (hx : nanB .f32 x = false) (hy : nanB .f32 y = false) : fcmp .neq .f32 x y = !fcmp .eql .f32 y x := by
  rw [(fcmp_num .f32 hx hy).2.1, (fcmp_num .f32 hy hx).1]
  congr 1
  exact decide_eq_decide.2 ⟨Eq.symm, Eq.symm⟩
theorem scan_first {α β : Type} {L : Nat → Int → Option (α ⊕ β)} {len : Nat} (p : Nat → Bool) {g : Nat → α} {e : β}
    (hs : ∀ n i, i < len → L (n + 1) (Int.ofNat i) = if p i = true then L n (Int.ofNat (i + 1)) else some (.inl (g i)))
    (he : ∀ n, L (n + 1) (Int.ofNat len) = some (.inr e)) :
    ∀ k i n, i + k = len → k < n → ((∀ j, i ≤ j → j < len → p j = true) ∧ L n (Int.ofNat i) = some (.inr e)) ∨ ∃ j, i ≤ j ∧ j < len ∧ p j = false ∧ (∀ l, i ≤ l → l < j → p l = true) ∧ L n (Int.ofNat i) = some (.inl (g j))
  | 0, i, n, hk, hn => by
    obtain ⟨n, rfl⟩ : ∃ m, n = m + 1 := ⟨n - 1, by omega⟩
    obtain rfl : i = len := by omega
    exact .inl ⟨fun j h1 h2 => by omega, he n⟩
  | k + 1, i, n, hk, hn => by
    obtain ⟨n, rfl⟩ : ∃ m, n = m + 1 := ⟨n - 1, by omega⟩
    have hi : i < len := by omega
    rw [hs n i hi]
    cases hp : p i with
    | false => exact .inr ⟨i, Nat.le_refl _, hi, hp, fun l h1 h2 => by omega, by simp⟩
    | true =>
      simp only [if_pos]
      rcases scan_first p hs he k (i + 1) n (by omega) (by omega) with ⟨h1, h2⟩ | ⟨j, h1, h2, h3, h5, h4⟩
      · refine .inl ⟨fun j h3 h4 => ?_, h2⟩
        by_cases e : j = i
        · rw [e]; exact hp
        · exact h1 j (by omega) h4
      · refine .inr ⟨j, by omega, h2, h3, fun l h6 h7 => ?_, h4⟩
        by_cases e : l = i
        · rw [e]; exact hp
        · exact h5 l (by omega) h7
theorem knot_rg {as : List Nat} {j : Nat} (h : knotB as j = true) : rg FloatKind.f32.format (as.getD j 0) ≤ 1056964608 := by
  unfold knotB fromToB at h
  simp only [Bool.and_eq_true] at h
  exact between_rg (k := .f32) (by decide +kernel) (by decide +kernel) (by decide +kernel) (by decide +kernel) h.1.1 h.1.2
def aboveB (as : List Nat) (t j : Nat) : Bool := fcmp .gtr .f32 (as.getD j 0) t
theorem impl_between_find {as : List Nat} {t : Nat} (hl : as.length ≤ 24) :
    ((∀ j, j < as.length → aboveB as t j = false) ∧ z0g as.length (Int.ofNat as.length) as t big 0 = some (.inr (Int.ofNat as.length, false))) ∨
    ∃ j, j < as.length ∧ aboveB as t j = true ∧ (∀ l, l < j → aboveB as t l = false) ∧ z0g as.length (Int.ofNat as.length) as t big 0 = some (.inl (Int.ofNat j)) := by
  rcases scan_first (L := z0g as.length (Int.ofNat as.length) as t) (len := as.length) (fun j => !aboveB as t j) (g := fun j => Int.ofNat j) (e := (Int.ofNat as.length, false))
    (fun n i hi => by
      rw [z4b]; unfold z0m
      rw [ltN_t hi, okIx_t hi, ix1, addI1 (by omega)]
      unfold aboveB
      simp only [gF, br_true, grd_true]
      cases fcmp .gtr .f32 (as.getD i 0) t <;> rfl)
    (fun n => by rw [z4b]; unfold z0m; rw [ltN_f (Nat.le_refl _)]; rfl) as.length 0 big (by omega) (big_gt (by omega)) with ⟨h1, h2⟩ | ⟨j, _, h2, h3, h4, h5⟩
  · exact .inl ⟨fun j hj => by simpa using h1 j (Nat.zero_le _) hj, h2⟩
  · exact .inr ⟨j, h2, by simpa using h3, fun l hl => by simpa using h4 l (Nat.zero_le _) hl, h5⟩
def pairR (as : List Nat) (j : Nat) : Nat × Nat × Nat × Nat :=
  if j = 0 then (as.length - 1, 0, fop .sub .f32 (as.getD (as.length - 1) 0) 1065353216, as.getD 0 0)
  else if j = as.length then (as.length - 1, 0, as.getD (as.length - 1) 0, fop .add .f32 (as.getD 0 0) 1065353216)
  else (j - 1, j, as.getD (j - 1) 0, as.getD j 0)
theorem prof_knots {as ls ds : List Nat} (h : validProfB as ls ds = true) : ∀ j, j < as.length → knotB as j = true := by
  unfold validProfB at h
  simp only [Bool.and_eq_true] at h
  intro j hj
  have := range_all.1 h.2.2.2.2 j hj
  unfold profB at this
  rw [Bool.and_eq_true] at this
  exact this.1
theorem knots_fin {as ls ds : List Nat} {j : Nat} (hv : validProfB as ls ds = true) (hj : j ≤ as.length) : finW .f32 (pairR as j).2.2.1 = true ∧ finW .f32 (pairR as j).2.2.2 = true ∧ (pairR as j).1 < as.length ∧ (pairR as j).2.1 < as.length := by
  obtain ⟨c1, c2, c3, c4⟩ := validProfB_len hv
  have hk := prof_knots hv
  have hf : ∀ i, i < as.length → rg FloatKind.f32.format (as.getD i 0) ≤ 1056964608 := fun i hi => knot_rg (hk i hi)
  have h1 : ∀ i, i < as.length → finW .f32 (as.getD i 0) = true := fun i hi => finW_of (hf i hi) (by decide +kernel)
  unfold pairR
  split
  · refine ⟨?_, h1 0 (by omega), by show as.length - 1 < as.length; omega, by show 0 < as.length; omega⟩
    exact finW_of (sub_rg (c := 1073741824) (hf _ (by omega)) (show rg FloatKind.f32.format 1065353216 ≤ 1065353216 by decide +kernel) (by decide +kernel) (by decide +kernel) (by decide +kernel)) (by decide +kernel)
  · split
    · refine ⟨h1 _ (by omega), ?_, by show as.length - 1 < as.length; omega, by show 0 < as.length; omega⟩
      exact finW_of (add_rg (c := 1073741824) (hf _ (by omega)) (show rg FloatKind.f32.format 1065353216 ≤ 1065353216 by decide +kernel) (by decide +kernel) (by decide +kernel) (by decide +kernel)) (by decide +kernel)
    · exact ⟨h1 _ (by omega), h1 _ (by omega), by show j - 1 < as.length; omega, by show j < as.length; omega⟩
theorem impl_checkedTwo_eq (x y : Nat) : z47 x y = some (if (finB x && finB y) = true then (x, y, true) else (0, 0, false)) := by
  obtain ⟨p, q⟩ := z9k (show z58 2 (pF [x, y] 0 (muN 2 1)) = some ([x, y].all finB) from impl_areFinite_eq (xs := [x, y]) (by simp))
  unfold z47 z5z
  rw [p, q]
  simp only [List.all_cons, List.all_nil, Bool.and_true, grd_true]
  cases finB x <;> cases finB y <;> rfl
def byteL (xs : List Int) : Prop := ∀ x ∈ xs, 0 ≤ x ∧ x ≤ 255
theorem byteL_get {xs : List Int} (h : byteL xs) (k : Nat) : 0 ≤ xs.getD k 0 ∧ xs.getD k 0 ≤ 255 := by
  rw [List.getD_eq_getElem?_getD]
  cases hk : xs[k]? with
  | none => exact ⟨by simp, by simp⟩
  | some x => exact h x (List.mem_of_getElem? hk)
theorem u64_small {n : Nat} (h : n ≤ 255) : IntKind.u64.wrap (n : Int) = n := by
  unfold IntKind.wrap
  simp [IntKind.signed, IntKind.bits]
  omega
theorem and255 (x : Int) : 0 ≤ bitI .and .u64 x 255 ∧ bitI .and .u64 x 255 ≤ 255 := by
  have hle : (BitVec.ofInt 64 x &&& BitVec.ofInt 64 255).toNat ≤ 255 := by
    rw [BitVec.toNat_and]
    exact Nat.le_trans Nat.and_le_right (by decide)
  have e : bitI .and .u64 x 255 = ((BitVec.ofInt 64 x &&& BitVec.ofInt 64 255).toNat : Int) := u64_small hle
  rw [e]
  omega
def nxO (b0 : List Int) (b2_0n : Nat) (b2_1 b2_2 : Int) : Option (Int × Int × Int) :=
  (br (ltI b2_1 (Int.ofNat b2_0n)) (grd (okIx b2_1 b2_0n) (br (leI (addI IntKind.i64 b2_1 1) (Int.ofNat b2_0n)) (some (cvI IntKind.i64 (gI b0 (ixO 0 b2_1 1)), addI IntKind.i64 b2_1 1, addI IntKind.u64 (addI IntKind.u64 (mulI IntKind.u64 b2_2 6364136223846793005) (cvI IntKind.u64 (cvI IntKind.i64 (gI b0 (ixO 0 b2_1 1))))) 1442695040888963407)) (some (cvI IntKind.i64 (bitI BinOp.and IntKind.u64 (shI Bool.false IntKind.u64 (addI IntKind.u64 (addI IntKind.u64 (mulI IntKind.u64 b2_2 6364136223846793005) (cvI IntKind.u64 (cvI IntKind.i64 (gI b0 (ixO 0 b2_1 1))))) 1442695040888963407) 40) 255), addI IntKind.i64 b2_1 1, addI IntKind.u64 (addI IntKind.u64 (mulI IntKind.u64 b2_2 6364136223846793005) (cvI IntKind.u64 (cvI IntKind.i64 (gI b0 (ixO 0 b2_1 1))))) 1442695040888963407)))) (br (leI (addI IntKind.i64 b2_1 1) (Int.ofNat b2_0n)) (some (0, addI IntKind.i64 b2_1 1, addI IntKind.u64 (addI IntKind.u64 (mulI IntKind.u64 b2_2 6364136223846793005) (cvI IntKind.u64 0)) 1442695040888963407)) (some (cvI IntKind.i64 (bitI BinOp.and IntKind.u64 (shI Bool.false IntKind.u64 (addI IntKind.u64 (addI IntKind.u64 (mulI IntKind.u64 b2_2 6364136223846793005) (cvI IntKind.u64 0)) 1442695040888963407) 40) 255), addI IntKind.i64 b2_1 1, addI IntKind.u64 (addI IntKind.u64 (mulI IntKind.u64 b2_2 6364136223846793005) (cvI IntKind.u64 0)) 1442695040888963407))))
theorem i64_byte {x : Int} (h : 0 ≤ x ∧ x ≤ 255) : 0 ≤ cvI .i64 x ∧ cvI .i64 x ≤ 255 := by
  have : cvI .i64 x = x := wrap64 (by omega) (by omega)
  rw [this]; exact h
theorem nx_ok {xs : List Int} {n : Nat} {a s : Int} (hx : byteL xs) (h0 : 0 ≤ a) (h1 : a ≤ 1099511627776) :
    ∃ r a' s', nxO xs n a s = some (r, a', s') ∧ (0 ≤ r ∧ r ≤ 255) ∧ (0 ≤ a' ∧ a' ≤ a + 1) := by
  have e1 : addI .i64 a 1 = a + 1 := wrap64 (by omega) (by omega)
  unfold nxO
  rw [e1]
  cases hlt : ltI a (Int.ofNat n)
  · rw [br_false]
    cases leI (a + 1) (Int.ofNat n)
    · exact ⟨_, _, _, rfl, i64_byte (and255 _), by omega⟩
    · exact ⟨_, _, _, rfl, by omega, by omega⟩
  · have hlt' := of_decide_eq_true hlt
    have hok : okIx a n = true := decide_eq_true ⟨h0, hlt'⟩
    rw [br_true, hok, grd_true]
    cases leI (a + 1) (Int.ofNat n)
    · exact ⟨_, _, _, rfl, i64_byte (and255 _), by omega⟩
    · exact ⟨_, _, _, rfl, i64_byte (byteL_get hx _), by omega⟩
theorem pick_in {r : Int} (h : 0 ≤ r ∧ r ≤ 255) {m : Int} (hm : 0 < m) : 0 ≤ remI r m ∧ remI r m < m := ⟨Int.tmod_nonneg _ h.1, Int.tmod_lt_of_pos _ hm⟩
def x32 (u : Int) : Nat := fop .quo .f32 (fOI .f32 u) 1107296256
def l8 (u : Int) : Nat := fop .quo .f32 (fOI .f32 u) 1090519040
def q4 (u : Int) : Nat := fop .quo .f32 (fOI .f32 u) 1082130432
def t64 (u : Int) : Nat := fop .quo .f32 (fOI .f32 u) 1115684864
theorem x32_add (u : Fin 33) (k : Fin 5) : fop .add .f32 (x32 ((u : Int) - 16)) (x32 (k : Int)) = x32 ((u : Int) - 16 + k) := by revert u k; decide +kernel
theorem x32_rg (u : Fin 33) : rg FloatKind.f32.format (x32 ((u : Int) - 16)) ≤ 1056964608 ∧ fromToB (x32 ((u : Int) - 16)) 3204448256 1056964608 = true := by revert u; decide +kernel
theorem d32_least (u : Fin 17) : leastB (x32 (u : Int)) = true ∧ rg FloatKind.f32.format (x32 (u : Int)) ≤ 1056964608 := by revert u; decide +kernel
def climb : Int → List Int → Prop
  | _, [] => True
  | u, v :: r => v = u ∧ ∃ k, 1 ≤ k ∧ k ≤ 4 ∧ climb (u + k) r
theorem x32_step {u k : Int} (h1 : -16 ≤ u) (h2 : u ≤ 16) (h3 : 0 ≤ k) (h4 : k ≤ 4) : fop .add .f32 (x32 u) (x32 k) = x32 (u + k) := by
  have := x32_add ⟨(u + 16).toNat, by omega⟩ ⟨k.toNat, by omega⟩
  simp only at this
  rw [show (((u + 16).toNat : Int)) - 16 = u by omega, show ((k.toNat : Int)) = k by omega] at this
  exact this
theorem spec_l02Plate_eq {n : Nat} (hn : n ≤ 24) : z3l (Int.ofNat n) = some (n, n, n, listOf (plateA n) n, listOf (plateL n) n, listOf (plateD n) n) := by
  obtain ⟨g1, _, _, g2, g3, g4, g5, g6, g7⟩ := zhw rfl (spec_Plate_loop hn)
  obtain ⟨n0, n1, n2, n3⟩ := zgt (show z62 = some ([], [], []) from rfl)
  unfold z3l z70
  simp only [n0, n1, n2, n3, g1, g2, g3, g4, g5, g6, g7, grd_true]
def DrawnP (as ls ds : List Nat) : Prop :=
  (∃ m : Nat, 2 ≤ m ∧ m ≤ 9 ∧ as = listOf (plateA m) m ∧ ls = listOf (plateL m) m ∧ ds = listOf (plateD m) m) ∨
  ∃ (u : Int) (us vs ws : List Int), -16 ≤ u ∧ u ≤ -8 ∧ climb u us ∧ 2 ≤ us.length ∧ us.length ≤ 6 ∧ vs.length = us.length ∧ ws.length = us.length ∧ (∀ v ∈ vs, -6 ≤ v ∧ v ≤ 10) ∧ (∀ v ∈ ws, 0 ≤ v ∧ v ≤ 8) ∧ as = us.map x32 ∧ ls = vs.map l8 ∧ ds = ws.map x32
theorem plates_valid (m : Fin 8) : validProfB (listOf (plateA (m.val + 2)) (m.val + 2)) (listOf (plateL (m.val + 2)) (m.val + 2)) (listOf (plateD (m.val + 2)) (m.val + 2)) = true := by revert m; decide +kernel
theorem grid_leq (u v : Fin 33) : fcmp .leq .f32 (x32 ((u : Int) - 16)) (x32 ((v : Int) - 16)) = decide (u ≤ v) := by revert u v; decide +kernel
theorem grid_lift (v : Fin 33) : finB (l8 ((v : Int) - 16)) = true ∧ rg FloatKind.f32.format (l8 ((v : Int) - 16)) ≤ 1082130432 := by revert v; decide +kernel
theorem climb_get : ∀ {us : List Int} {u : Int}, climb u us → ∀ j, j < us.length → u + j ≤ us.getD j 0 ∧ us.getD j 0 ≤ u + 4 * j
  | [], u, _, j, hj => by simp at hj
  | v :: r, u, h, 0, _ => by
    obtain ⟨rfl, _⟩ := h
    simp
  | v :: r, u, h, j + 1, hj => by
    obtain ⟨rfl, k, h1, h2, h3⟩ := h
    have := climb_get h3 j (by simpa using hj)
    simp only [List.getD_cons_succ]
    omega
theorem climb_next : ∀ {us : List Int} {u : Int}, climb u us → ∀ j, j + 1 < us.length → ∃ k, 1 ≤ k ∧ k ≤ 4 ∧ us.getD (j + 1) 0 = us.getD j 0 + k
  | [], u, _, j, hj => by simp at hj
  | v :: r, u, h, 0, hj => by
    obtain ⟨rfl, k, h1, h2, h3⟩ := h
    refine ⟨k, h1, h2, ?_⟩
    cases r with
    | nil => simp at hj
    | cons w r => obtain ⟨rfl, _⟩ := h3; simp
  | v :: r, u, h, j + 1, hj => by
    obtain ⟨rfl, k, h1, h2, h3⟩ := h
    have := climb_next h3 j (by simpa using hj)
    simpa using this
theorem map_getD (f : Int → Nat) (us : List Int) {j : Nat} (h : j < us.length) : (us.map f).getD j 0 = f (us.getD j 0) := by
  simp [List.getD_eq_getElem?_getD, h]
theorem gleq {a b : Int} (h1 : -16 ≤ a) (h2 : a ≤ 16) (h3 : -16 ≤ b) (h4 : b ≤ 16) : fcmp .leq .f32 (x32 a) (x32 b) = decide (a ≤ b) := by
  have := grid_leq ⟨(a + 16).toNat, by omega⟩ ⟨(b + 16).toNat, by omega⟩
  simp only [Fin.mk_le_mk] at this
  rw [show (((a + 16).toNat : Int)) - 16 = a by omega, show (((b + 16).toNat : Int)) - 16 = b by omega] at this
  rw [this]
  by_cases h : a ≤ b
  · rw [decide_eq_true h, decide_eq_true (by omega)]
  · rw [decide_eq_false h, decide_eq_false (by omega)]
theorem gfrom {a : Int} (h1 : -16 ≤ a) (h2 : a ≤ 16) : fromToB (x32 a) 3204448256 1056964608 = true := by
  have := (x32_rg ⟨(a + 16).toNat, by omega⟩).2
  simp only at this
  rw [show (((a + 16).toNat : Int)) - 16 = a by omega] at this
  exact this
theorem glift {a : Int} (h1 : -16 ≤ a) (h2 : a ≤ 16) : finB (l8 a) = true ∧ rg FloatKind.f32.format (l8 a) ≤ 1082130432 := by
  have := grid_lift ⟨(a + 16).toNat, by omega⟩
  simp only at this
  rw [show (((a + 16).toNat : Int)) - 16 = a by omega] at this
  exact this
theorem gdrag {a : Int} (h1 : 0 ≤ a) (h2 : a ≤ 16) : leastB (x32 a) = true ∧ rg FloatKind.f32.format (x32 a) ≤ 1082130432 := by
  have := d32_least ⟨a.toNat, by omega⟩
  simp only at this
  rw [show ((a.toNat : Int)) = a by omega] at this
  exact ⟨this.1, by omega⟩
theorem getD_mem {xs : List Int} {j : Nat} (h : j < xs.length) : xs.getD j 0 ∈ xs := by
  simp [List.getD_eq_getElem?_getD, h]
theorem drawn_valid {as ls ds : List Nat} (h : DrawnP as ls ds) : validProfB as ls ds = true := by
  rcases h with ⟨m, h1, h2, rfl, rfl, rfl⟩ | ⟨u, us, vs, ws, hu1, hu2, hc, hn1, hn2, hv, hw, hvs, hws, rfl, rfl, rfl⟩
  · have := plates_valid ⟨m - 2, by omega⟩
    simp only at this
    rw [show m - 2 + 2 = m by omega] at this
    exact this
  · unfold validProfB
    simp only [List.length_map, Bool.and_eq_true, decide_eq_true_eq]
    refine ⟨hn1, by omega, hv, hw, range_all.2 fun j hj => ?_⟩
    have hg := climb_get hc j hj
    unfold profB knotB
    rw [map_getD x32 us hj, map_getD l8 vs (by omega), map_getD x32 ws (by omega), gfrom (by omega) (by omega)]
    have hl := hvs _ (getD_mem (xs := vs) (j := j) (by omega))
    have hd := hws _ (getD_mem (xs := ws) (j := j) (by omega))
    rw [(glift (by omega) (by omega)).1, (gdrag hd.1 (by omega)).1]
    by_cases h0 : j = 0
    · subst h0; rfl
    · obtain ⟨i, rfl⟩ : ∃ i, j = i + 1 := ⟨j - 1, by omega⟩
      have hg' := climb_get hc i (by omega)
      obtain ⟨k, k1, k2, k3⟩ := climb_next hc i hj
      rw [show i + 1 - 1 = i by omega, map_getD x32 us (by omega), gleq (by omega) (by omega) (by omega) (by omega), decide_eq_false (show ¬ us.getD (i + 1) 0 ≤ us.getD i 0 by omega)]
      simp
theorem pair_eq2 {as ls ds : List Nat} {x : Nat} (hv : validProfB as ls ds = true) (hx : finB x = true) : ∃ j, j ≤ as.length ∧ (∀ l, l < j → aboveB as (wrapV x) l = false) ∧ (j < as.length → aboveB as (wrapV x) j = true) ∧
    z1x as.length as ls.length ls ds.length ds x = some (Int.ofNat (pairR as j).1, Int.ofNat (pairR as j).2.1, (pairR as j).2.2.1, (pairR as j).2.2.2, wrapV x) := by
  obtain ⟨c1, c2, c3, c4⟩ := validProfB_len hv
  have ht := wrapV_nan hx
  obtain ⟨p1, q1⟩ := zks (impl_wrapAngle_eq hx)
  have hn1 : subI .i64 (Int.ofNat as.length) 1 = Int.ofNat (as.length - 1) := subN1 (by omega) (by omega)
  have o1 : okIx (Int.ofNat (as.length - 1)) as.length = true := okIx_t (by omega)
  have o0 : okIx 0 as.length = true := okIx_t (i := 0) (by omega)
  have i0 : ixO 0 0 1 = 0 := rfl
  generalize wrapV x = t at ht q1 ⊢
  rcases impl_between_find (t := t) c2 with ⟨k1, k2⟩ | ⟨j, k1, k2, k3, k4⟩
  · refine ⟨as.length, Nat.le_refl _, k1, fun h => absurd h (by omega), ?_⟩
    obtain ⟨g1, g2, _⟩ := z82 rfl k2
    have hr : pairR as as.length = (as.length - 1, 0, as.getD (as.length - 1) 0, fop .add .f32 (as.getD 0 0) 1065353216) := by unfold pairR; rw [if_neg (by omega), if_pos rfl]
    rw [hr]
    unfold z1x z3p
    simp only [p1, q1, g1, g2, hn1, o1, o0, ix1, i0, gF, grd_true, br_false]
    rfl
  · refine ⟨j, by omega, k3, fun _ => k2, ?_⟩
    obtain ⟨g1, g2, g3⟩ := z81 rfl k4
    unfold z1x z3p
    simp only [p1, q1, g1, g2, g3, grd_true, br_true]
    by_cases h0 : j = 0
    · subst h0
      have hr : pairR as 0 = (as.length - 1, 0, fop .sub .f32 (as.getD (as.length - 1) 0) 1065353216, as.getD 0 0) := by unfold pairR; rw [if_pos rfl]
      rw [hr, eqN0]
      simp only [hn1, o1, o0, ix1, i0, gF, grd_true, br_true, decide_eq_true (rfl : (0 : Nat) = 0)]
      rfl
    · have hr : pairR as j = (j - 1, j, as.getD (j - 1) 0, as.getD j 0) := by unfold pairR; rw [if_neg h0, if_neg (by omega)]
      rw [hr, eqN0, decide_eq_false h0, show ltI (Int.ofNat j) 0 = false from ltI_f (by simp), subN1 h0 (by omega), okIx_t (show j - 1 < as.length by omega), okIx_t k1, ix1, ix1]
      rfl
theorem t64_mg (m : Fin 65) : mg .f32 (t64 (m : Int)) = m.val * 2 ^ 143 ∧ finW .f32 (t64 (m : Int)) = true ∧ nn .f32 (t64 (m : Int)) = false := by revert m; decide +kernel
theorem x32_mg (m : Fin 33) : mg .f32 (x32 (m : Int)) = m.val * 2 ^ 144 ∧ finW .f32 (x32 (m : Int)) = true ∧ nn .f32 (x32 (m : Int)) = false := by revert m; decide +kernel
theorem x32_fin (m : Fin 97) : finW .f32 (x32 ((m : Int) - 48)) = true := by revert m; decide +kernel
theorem t_sub (q : Fin 64) (k : Fin 64) : fop .sub .f32 (t64 ((q : Int) - 32)) (x32 ((k : Int) - 47)) = t64 ((q : Int) - 32 - 2 * ((k : Int) - 47)) := by revert q k; decide +kernel
theorem x_sub (h : Fin 65) (k : Fin 64) : fop .sub .f32 (x32 ((h : Int) - 16)) (x32 ((k : Int) - 47)) = x32 ((h : Int) - 16 - ((k : Int) - 47)) := by revert h k; decide +kernel
theorem x_down (k : Fin 33) : fop .sub .f32 (x32 ((k : Int) - 16)) 1065353216 = x32 ((k : Int) - 16 - 32) := by revert k; decide +kernel
theorem x_up (k : Fin 33) : fop .add .f32 (x32 ((k : Int) - 16)) 1065353216 = x32 ((k : Int) - 16 + 32) := by revert k; decide +kernel
theorem x_gtr (k : Fin 33) (q : Fin 64) : fcmp .gtr .f32 (x32 ((k : Int) - 16)) (t64 ((q : Int) - 32)) = decide ((q : Int) - 32 < 2 * ((k : Int) - 16)) := by revert k q; decide +kernel
theorem x_zero (D : Fin 33) : 1 ≤ D.val → fcmp .eql .f32 (x32 (D : Int)) 0 = false := by revert D; decide +kernel
theorem l8_sub (a b : Fin 33) : finW .f32 (l8 ((a : Int) - 16)) = true ∧ finW .f32 (fop .sub .f32 (l8 ((b : Int) - 16)) (l8 ((a : Int) - 16))) = true ∧ vl .f32 (fop .sub .f32 (l8 ((b : Int) - 16)) (l8 ((a : Int) - 16))) = vl .f32 (l8 ((b : Int) - 16)) - vl .f32 (l8 ((a : Int) - 16)) := by revert a b; decide +kernel
theorem d32_sub (a b : Fin 17) : finW .f32 (x32 (a : Int)) = true ∧ finW .f32 (fop .sub .f32 (x32 (b : Int)) (x32 (a : Int))) = true ∧ vl .f32 (fop .sub .f32 (x32 (b : Int)) (x32 (a : Int))) = vl .f32 (x32 (b : Int)) - vl .f32 (x32 (a : Int)) := by revert a b; decide +kernel
theorem frac_unit {m D : Nat} (h1 : m ≤ 2 * D) (h2 : 1 ≤ D) (h3 : D ≤ 32) : nn .f32 (fop .quo .f32 (t64 (m : Int)) (x32 (D : Int))) = false ∧ rg FloatKind.f32.format (fop .quo .f32 (t64 (m : Int)) (x32 (D : Int))) ≤ 1065353216 := by
  obtain ⟨a1, a2, a3⟩ := t64_mg ⟨m, by omega⟩
  obtain ⟨b1, b2, b3⟩ := x32_mg ⟨D, by omega⟩
  simp only at a1 a2 a3 b1 b2 b3
  have hp := Nat.two_pow_pos 143
  refine quo_unit a2 b2 a3 b3 ?_ ?_
  · rw [b1]; exact Nat.mul_pos (by omega) (Nat.two_pow_pos 144)
  · rw [a1, b1, show (2 : Nat) ^ 144 = 2 * 2 ^ 143 from rfl, ← Nat.mul_assoc]
    exact Nat.mul_le_mul_right _ (by omega)
theorem gt_sub {q k : Int} (h1 : -32 ≤ q) (h2 : q ≤ 31) (h3 : -47 ≤ k) (h4 : k ≤ 16) : fop .sub .f32 (t64 q) (x32 k) = t64 (q - 2 * k) := by
  have := t_sub ⟨(q + 32).toNat, by omega⟩ ⟨(k + 47).toNat, by omega⟩
  simp only at this
  rw [show (((q + 32).toNat : Int)) - 32 = q by omega, show (((k + 47).toNat : Int)) - 47 = k by omega] at this
  exact this
theorem gx_sub {h k : Int} (h1 : -16 ≤ h) (h2 : h ≤ 48) (h3 : -47 ≤ k) (h4 : k ≤ 16) : fop .sub .f32 (x32 h) (x32 k) = x32 (h - k) := by
  have := x_sub ⟨(h + 16).toNat, by omega⟩ ⟨(k + 47).toNat, by omega⟩
  simp only at this
  rw [show (((h + 16).toNat : Int)) - 16 = h by omega, show (((k + 47).toNat : Int)) - 47 = k by omega] at this
  exact this
theorem gx_down {k : Int} (h1 : -16 ≤ k) (h2 : k ≤ 16) : fop .sub .f32 (x32 k) 1065353216 = x32 (k - 32) := by
  have := x_down ⟨(k + 16).toNat, by omega⟩
  simp only at this
  rw [show (((k + 16).toNat : Int)) - 16 = k by omega] at this
  exact this
theorem gx_up {k : Int} (h1 : -16 ≤ k) (h2 : k ≤ 16) : fop .add .f32 (x32 k) 1065353216 = x32 (k + 32) := by
  have := x_up ⟨(k + 16).toNat, by omega⟩
  simp only at this
  rw [show (((k + 16).toNat : Int)) - 16 = k by omega] at this
  exact this
theorem gx_gtr {k q : Int} (h1 : -16 ≤ k) (h2 : k ≤ 16) (h3 : -32 ≤ q) (h4 : q ≤ 31) : fcmp .gtr .f32 (x32 k) (t64 q) = decide (q < 2 * k) := by
  have := x_gtr ⟨(k + 16).toNat, by omega⟩ ⟨(q + 32).toNat, by omega⟩
  simp only at this
  rw [show (((q + 32).toNat : Int)) - 32 = q by omega, show (((k + 16).toNat : Int)) - 16 = k by omega] at this
  exact this
theorem gl_sub {a b : Int} (h1 : -16 ≤ a) (h2 : a ≤ 16) (h3 : -16 ≤ b) (h4 : b ≤ 16) : finW .f32 (l8 a) = true ∧ finW .f32 (fop .sub .f32 (l8 b) (l8 a)) = true ∧ vl .f32 (fop .sub .f32 (l8 b) (l8 a)) = vl .f32 (l8 b) - vl .f32 (l8 a) := by
  have := l8_sub ⟨(a + 16).toNat, by omega⟩ ⟨(b + 16).toNat, by omega⟩
  simp only at this
  rw [show (((a + 16).toNat : Int)) - 16 = a by omega, show (((b + 16).toNat : Int)) - 16 = b by omega] at this
  exact this
theorem gd_sub {a b : Int} (h1 : 0 ≤ a) (h2 : a ≤ 16) (h3 : 0 ≤ b) (h4 : b ≤ 16) : finW .f32 (x32 a) = true ∧ finW .f32 (fop .sub .f32 (x32 b) (x32 a)) = true ∧ vl .f32 (fop .sub .f32 (x32 b) (x32 a)) = vl .f32 (x32 b) - vl .f32 (x32 a) := by
  have := d32_sub ⟨a.toNat, by omega⟩ ⟨b.toNat, by omega⟩
  simp only at this
  rw [show ((a.toNat : Int)) = a by omega, show ((b.toNat : Int)) = b by omega] at this
  exact this
def rise (us : List Int) : Prop := (∀ j, j < us.length → -16 ≤ us.getD j 0 ∧ us.getD j 0 ≤ 16) ∧ ∀ i j, i < j → j < us.length → us.getD i 0 < us.getD j 0
theorem climb_rise : ∀ {us : List Int} {u : Int}, climb u us → ∀ i j, i < j → j < us.length → us.getD i 0 < us.getD j 0
  | [], u, _, i, j, _, hj => by simp at hj
  | v :: r, u, h, 0, j + 1, _, hj => by
    obtain ⟨rfl, k, h1, h2, h3⟩ := h
    have := climb_get h3 j (by simpa using hj)
    simp only [List.getD_cons_succ, List.getD_cons_zero]
    omega
  | v :: r, u, h, i + 1, j + 1, hi, hj => by
    obtain ⟨rfl, k, h1, h2, h3⟩ := h
    have := climb_rise h3 i j (by omega) (by simpa using hj)
    simpa only [List.getD_cons_succ] using this
theorem drawn_rise {us : List Int} {u : Int} (hu : -16 ≤ u ∧ u ≤ -8) (hc : climb u us) (hl : us.length ≤ 6) : rise us := by
  refine ⟨fun j hj => ?_, climb_rise hc⟩
  have := climb_get hc j hj
  omega
def SegP (us : List Int) (q : Int) (a b m D : Nat) : Prop :=
  (a + 1 = b ∧ b < us.length ∧ 2 * us.getD a 0 ≤ q ∧ q < 2 * us.getD b 0 ∧ (m : Int) = q - 2 * us.getD a 0 ∧ (D : Int) = us.getD b 0 - us.getD a 0) ∨
  (a = us.length - 1 ∧ b = 0 ∧ q < 2 * us.getD 0 0 ∧ (m : Int) = q - 2 * us.getD a 0 + 64 ∧ (D : Int) = us.getD 0 0 + 32 - us.getD a 0) ∨
  (a = us.length - 1 ∧ b = 0 ∧ 2 * us.getD a 0 ≤ q ∧ (m : Int) = q - 2 * us.getD a 0 ∧ (D : Int) = us.getD 0 0 + 32 - us.getD a 0)
structure GridW (X T : Int → Nat) : Prop where
  td : ∀ {q k : Int}, -32 ≤ q → q ≤ 31 → -47 ≤ k → k ≤ -16 → fop .sub .f32 (T q) (x32 k) = t64 (q - 2 * k)
  ts : ∀ {q k : Int}, -32 ≤ q → q ≤ 31 → -16 ≤ k → k ≤ 16 → fop .sub .f32 (T q) (X k) = t64 (q - 2 * k)
  ss : ∀ {h k : Int}, -16 ≤ h → h ≤ 16 → -16 ≤ k → k ≤ 16 → fop .sub .f32 (X h) (X k) = x32 (h - k)
  sd : ∀ {h k : Int}, -16 ≤ h → h ≤ 16 → -47 ≤ k → k ≤ -16 → fop .sub .f32 (X h) (x32 k) = x32 (h - k)
  su : ∀ {h k : Int}, 16 ≤ h → h ≤ 48 → -16 ≤ k → k ≤ 16 → fop .sub .f32 (x32 h) (X k) = x32 (h - k)
  dn : ∀ {k : Int}, -16 ≤ k → k ≤ 16 → fop .sub .f32 (X k) 1065353216 = x32 (k - 32)
  up : ∀ {k : Int}, -16 ≤ k → k ≤ 16 → fop .add .f32 (X k) 1065353216 = x32 (k + 32)
  gt : ∀ {k q : Int}, -16 ≤ k → k ≤ 16 → -32 ≤ q → q ≤ 31 → fcmp .gtr .f32 (X k) (T q) = decide (q < 2 * k)
theorem grid_x32 : GridW x32 t64 where
  td h1 h2 h3 h4 := gt_sub h1 h2 h3 (by omega)
  ts h1 h2 h3 h4 := gt_sub h1 h2 (by omega) h4
  ss h1 h2 h3 h4 := gx_sub h1 (by omega) (by omega) h4
  sd h1 h2 h3 h4 := gx_sub h1 (by omega) h3 (by omega)
  su h1 h2 h3 h4 := gx_sub (by omega) h2 (by omega) h4
  dn h1 h2 := gx_down h1 h2
  up h1 h2 := gx_up h1 h2
  gt h1 h2 h3 h4 := gx_gtr h1 h2 h3 h4
theorem seg_grid {X T : Int → Nat} (hX : GridW X T) {us : List Int} {q : Int} {j : Nat} (hg : rise us) (hl : 2 ≤ us.length) (hq : -32 ≤ q ∧ q ≤ 31) (hj : j ≤ us.length)
    (ha : ∀ l, l < j → aboveB (us.map X) (T q) l = false) (hb : j < us.length → aboveB (us.map X) (T q) j = true) :
    ∃ m D : Nat, m ≤ 2 * D ∧ 1 ≤ D ∧ D ≤ 32 ∧ fop .sub .f32 (T q) (pairR (us.map X) j).2.2.1 = t64 (m : Int) ∧ fop .sub .f32 (pairR (us.map X) j).2.2.2 (pairR (us.map X) j).2.2.1 = x32 (D : Int) ∧ (pairR (us.map X) j).1 < us.length ∧ (pairR (us.map X) j).2.1 < us.length ∧ SegP us q (pairR (us.map X) j).1 (pairR (us.map X) j).2.1 m D := by
  obtain ⟨hg, hmono⟩ := hg
  have hlow : ∀ l, l < j → l < us.length → 2 * us.getD l 0 ≤ q := by
    intro l h1 h2
    have h3 := ha l h1
    have := hg l h2
    unfold aboveB at h3
    rw [map_getD X us h2, hX.gt (by omega) (by omega) hq.1 hq.2] at h3
    have := of_decide_eq_false h3
    omega
  have hhigh : ∀ (h : j < us.length), q < 2 * us.getD j 0 := by
    intro h
    have h3 := hb h
    have := hg j h
    unfold aboveB at h3
    rw [map_getD X us h, hX.gt (by omega) (by omega) hq.1 hq.2] at h3
    exact of_decide_eq_true h3
  have g0 := hg 0 (by omega)
  have gn := hg (us.length - 1) (by omega)
  have gm := hmono 0 (us.length - 1) (by omega) (by omega)
  by_cases h0 : j = 0
  · subst h0
    have e : pairR (us.map X) 0 = (us.length - 1, 0, x32 (us.getD (us.length - 1) 0 - 32), X (us.getD 0 0)) := by
      unfold pairR
      rw [if_pos rfl, List.length_map, map_getD X us (by omega), map_getD X us (by omega), hX.dn (by omega) (by omega)]
    have hh := hhigh (by omega)
    rw [e]
    refine ⟨(q - 2 * (us.getD (us.length - 1) 0 - 32)).toNat, (us.getD 0 0 - (us.getD (us.length - 1) 0 - 32)).toNat, by omega, by omega, by omega, ?_, ?_, by show us.length - 1 < us.length; omega, by show 0 < us.length; omega, .inr (.inl ⟨rfl, rfl, by omega, by dsimp only; omega, by dsimp only; omega⟩)⟩
    · show fop .sub .f32 (T q) (x32 _) = _
      rw [hX.td hq.1 hq.2 (by omega) (by omega), Int.toNat_of_nonneg (by omega)]
    · show fop .sub .f32 (X _) (x32 _) = _
      rw [hX.sd (by omega) (by omega) (by omega) (by omega), Int.toNat_of_nonneg (by omega)]
  · by_cases hn : j = us.length
    · have e : pairR (us.map X) j = (us.length - 1, 0, X (us.getD (us.length - 1) 0), x32 (us.getD 0 0 + 32)) := by
        unfold pairR
        rw [if_neg h0, List.length_map, if_pos hn, map_getD X us (by omega), map_getD X us (by omega), hX.up (by omega) (by omega)]
      have hh := hlow (us.length - 1) (by omega) (by omega)
      rw [e]
      refine ⟨(q - 2 * us.getD (us.length - 1) 0).toNat, (us.getD 0 0 + 32 - us.getD (us.length - 1) 0).toNat, by omega, by omega, by omega, ?_, ?_, by show us.length - 1 < us.length; omega, by show 0 < us.length; omega, .inr (.inr ⟨rfl, rfl, by dsimp only; omega, by dsimp only; omega, by dsimp only; omega⟩)⟩
      · show fop .sub .f32 (T q) (X _) = _
        rw [hX.ts hq.1 hq.2 (by omega) (by omega), Int.toNat_of_nonneg (by omega)]
      · show fop .sub .f32 (x32 _) (X _) = _
        rw [hX.su (by omega) (by omega) (by omega) (by omega), Int.toNat_of_nonneg (by omega)]
    · have hjl : j < us.length := by omega
      have e : pairR (us.map X) j = (j - 1, j, X (us.getD (j - 1) 0), X (us.getD j 0)) := by
        unfold pairR
        rw [if_neg h0, List.length_map, if_neg hn, map_getD X us (by omega), map_getD X us hjl]
      have hh := hlow (j - 1) (by omega) (by omega)
      have hh2 := hhigh hjl
      have g1 := hg (j - 1) (by omega)
      have g2 := hg j hjl
      have g3 := hmono (j - 1) j (by omega) hjl
      rw [e]
      refine ⟨(q - 2 * us.getD (j - 1) 0).toNat, (us.getD j 0 - us.getD (j - 1) 0).toNat, by omega, by omega, by omega, ?_, ?_, by show j - 1 < us.length; omega, hjl, .inl ⟨by show j - 1 + 1 = j; omega, hjl, by dsimp only; omega, by dsimp only; omega, by dsimp only; omega, by dsimp only; omega⟩⟩
      · show fop .sub .f32 (T q) (X _) = _
        rw [hX.ts hq.1 hq.2 (by omega) (by omega), Int.toNat_of_nonneg (by omega)]
      · show fop .sub .f32 (X _) (X _) = _
        rw [hX.ss (by omega) (by omega) (by omega) (by omega), Int.toNat_of_nonneg (by omega)]
def y32 (u : Int) : Nat := fneg .f32 (x32 (-u))
def s64 (u : Int) : Nat := fneg .f32 (t64 (-u))
theorem y_td (q : Fin 64) (k : Fin 32) : fop .sub .f32 (s64 ((q : Int) - 32)) (x32 ((k : Int) - 47)) = t64 ((q : Int) - 32 - 2 * ((k : Int) - 47)) := by revert q k; decide +kernel
theorem y_ts (q : Fin 64) (k : Fin 33) : fop .sub .f32 (s64 ((q : Int) - 32)) (y32 ((k : Int) - 16)) = t64 ((q : Int) - 32 - 2 * ((k : Int) - 16)) := by revert q k; decide +kernel
theorem y_ss (h : Fin 33) (k : Fin 33) : fop .sub .f32 (y32 ((h : Int) - 16)) (y32 ((k : Int) - 16)) = x32 ((h : Int) - 16 - ((k : Int) - 16)) := by revert h k; decide +kernel
theorem y_sd (h : Fin 33) (k : Fin 32) : fop .sub .f32 (y32 ((h : Int) - 16)) (x32 ((k : Int) - 47)) = x32 ((h : Int) - 16 - ((k : Int) - 47)) := by revert h k; decide +kernel
theorem y_su (h : Fin 33) (k : Fin 33) : fop .sub .f32 (x32 ((h : Int) + 16)) (y32 ((k : Int) - 16)) = x32 ((h : Int) + 16 - ((k : Int) - 16)) := by revert h k; decide +kernel
theorem y_dn (k : Fin 33) : fop .sub .f32 (y32 ((k : Int) - 16)) 1065353216 = x32 ((k : Int) - 16 - 32) := by revert k; decide +kernel
theorem y_up (k : Fin 33) : fop .add .f32 (y32 ((k : Int) - 16)) 1065353216 = x32 ((k : Int) - 16 + 32) := by revert k; decide +kernel
theorem y_gt (k : Fin 33) (q : Fin 64) : fcmp .gtr .f32 (y32 ((k : Int) - 16)) (s64 ((q : Int) - 32)) = decide ((q : Int) - 32 < 2 * ((k : Int) - 16)) := by revert k q; decide +kernel
theorem at_int {P : Int → Prop} {a : Int} {n : Nat} (h : ∀ k : Fin n, P ((k : Int) - a)) {k : Int} (h1 : -a ≤ k) (h2 : k + a < n) : P k := by
  have := h ⟨(k + a).toNat, by omega⟩
  simp only at this
  rw [show (((k + a).toNat : Int)) - a = k by omega] at this
  exact this
theorem at_up {P : Int → Prop} {a : Int} {n : Nat} (h : ∀ k : Fin n, P ((k : Int) + a)) {k : Int} (h1 : a ≤ k) (h2 : k - a < n) : P k := by
  have := h ⟨(k - a).toNat, by omega⟩
  simp only at this
  rw [show (((k - a).toNat : Int)) + a = k by omega] at this
  exact this
theorem grid_y32 : GridW y32 s64 where
  td {q k} h1 h2 h3 h4 := at_int (P := fun q => fop .sub .f32 (s64 q) (x32 k) = t64 (q - 2 * k)) (fun i => at_int (P := fun k => fop .sub .f32 (s64 ((i : Int) - 32)) (x32 k) = t64 ((i : Int) - 32 - 2 * k)) (y_td i) h3 (by omega)) h1 (by omega)
  ts {q k} h1 h2 h3 h4 := at_int (P := fun q => fop .sub .f32 (s64 q) (y32 k) = t64 (q - 2 * k)) (fun i => at_int (P := fun k => fop .sub .f32 (s64 ((i : Int) - 32)) (y32 k) = t64 ((i : Int) - 32 - 2 * k)) (y_ts i) h3 (by omega)) h1 (by omega)
  ss {h k} h1 h2 h3 h4 := at_int (P := fun h => fop .sub .f32 (y32 h) (y32 k) = x32 (h - k)) (fun i => at_int (P := fun k => fop .sub .f32 (y32 ((i : Int) - 16)) (y32 k) = x32 ((i : Int) - 16 - k)) (y_ss i) h3 (by omega)) h1 (by omega)
  sd {h k} h1 h2 h3 h4 := at_int (P := fun h => fop .sub .f32 (y32 h) (x32 k) = x32 (h - k)) (fun i => at_int (P := fun k => fop .sub .f32 (y32 ((i : Int) - 16)) (x32 k) = x32 ((i : Int) - 16 - k)) (y_sd i) h3 (by omega)) h1 (by omega)
  su {h k} h1 h2 h3 h4 := at_up (P := fun h => fop .sub .f32 (x32 h) (y32 k) = x32 (h - k)) (fun i => at_int (P := fun k => fop .sub .f32 (x32 ((i : Int) + 16)) (y32 k) = x32 ((i : Int) + 16 - k)) (y_su i) h3 (by omega)) h1 (by omega)
  dn {k} h1 h2 := at_int (P := fun k => fop .sub .f32 (y32 k) 1065353216 = x32 (k - 32)) y_dn h1 (by omega)
  up {k} h1 h2 := at_int (P := fun k => fop .add .f32 (y32 k) 1065353216 = x32 (k + 32)) y_up h1 (by omega)
  gt {k q} h1 h2 h3 h4 := at_int (P := fun k => fcmp .gtr .f32 (y32 k) (s64 q) = decide (q < 2 * k)) (fun i => at_int (P := fun q => fcmp .gtr .f32 (y32 ((i : Int) - 16)) (s64 q) = decide (q < 2 * ((i : Int) - 16))) (y_gt i) h3 (by omega)) h1 (by omega)
def mir (us : List Int) : List Int := (us.map fun u => -u).reverse
theorem mir_length (us : List Int) : (mir us).length = us.length := by simp [mir]
theorem mir_get {us : List Int} {j : Nat} (h : j < us.length) : (mir us).getD j 0 = - us.getD (us.length - 1 - j) 0 := by
  unfold mir
  rw [List.getD_eq_getElem?_getD, List.getElem?_reverse (by simpa using h), List.length_map, List.getElem?_map, List.getD_eq_getElem?_getD, List.getElem?_eq_getElem (by omega : us.length - 1 - j < us.length)]
  rfl
theorem mir_rise {us : List Int} (h : rise us) : rise (mir us) := by
  refine ⟨fun j hj => ?_, fun i j hi hj => ?_⟩
  · rw [mir_length] at hj
    rw [mir_get hj]
    have := h.1 (us.length - 1 - j) (by omega)
    omega
  · rw [mir_length] at hj
    rw [mir_get hj, mir_get (by omega)]
    have := h.2 (us.length - 1 - j) (us.length - 1 - i) (by omega) (by omega)
    omega
theorem seg_mirror {us : List Int} {q q' : Int} {a b m D a' b' m' D' : Nat} (hr : rise us) (h15 : ∀ j, j < us.length → us.getD j 0 ≤ 15) (hl : 2 ≤ us.length) (hq : -32 ≤ q ∧ q ≤ 31) (hq' : (q = -32 ∧ q' = -32) ∨ (q ≠ -32 ∧ q' = -q))
    (h : SegP us q a b m D) (h' : SegP (mir us) q' a' b' m' D') : (m = 0 ∧ m' = 0 ∧ a < us.length ∧ a' + a + 1 = us.length) ∨ (a' + b + 1 = us.length ∧ b' + a + 1 = us.length ∧ D' = D ∧ m' + m = 2 * D) := by
  have hlt : ∀ i j, i < us.length → j < us.length → us.getD i 0 < us.getD j 0 → i < j := by
    intro i j hi hj h
    rcases Nat.lt_trichotomy i j with g | g | g
    · exact g
    · subst g; omega
    · have := hr.2 j i g hi; omega
  have hle : ∀ i j, i < us.length → j < us.length → us.getD i 0 ≤ us.getD j 0 → i ≤ j := by
    intro i j hi hj h
    rcases Nat.lt_or_ge j i with g | g
    · have := hr.2 j i g hi; omega
    · exact g
  unfold SegP at h'
  rw [mir_length] at h'
  have f0 := hr.1 0 (by omega)
  have fn := hr.1 (us.length - 1) (by omega)
  have f15 := h15 0 (by omega)
  have fm := hr.2 0 (us.length - 1) (by omega) (by omega)
  have gz : (mir us).getD 0 0 = - us.getD (us.length - 1) 0 := by rw [mir_get (by omega)]; rfl
  have gl : (mir us).getD (us.length - 1) 0 = - us.getD 0 0 := by rw [mir_get (by omega), show us.length - 1 - (us.length - 1) = 0 by omega]
  rcases h with ⟨e1, e2, e3, e4, e5, e6⟩ | ⟨rfl, rfl, e3, e5, e6⟩ | ⟨rfl, rfl, e3, e5, e6⟩
  · have ga := hr.1 a (by omega)
    rcases h' with ⟨d1, d2, d3, d4, d5, d6⟩ | ⟨rfl, rfl, d3, d5, d6⟩ | ⟨rfl, rfl, d3, d5, d6⟩
    · rw [mir_get (j := a') (by omega)] at d3 d5 d6
      rw [mir_get (j := b') d2] at d4 d6
      have gc := h15 (us.length - 1 - a') (by omega)
      rcases hq' with ⟨rfl, rfl⟩ | ⟨hq0, rfl⟩
      · omega
      · have i1 := hle a (us.length - 1 - a') (by omega) (by omega) (by omega)
        have i2 := hlt (us.length - 1 - b') b (by omega) (by omega) (by omega)
        rcases Nat.eq_or_lt_of_le i1 with i3 | i3
        · rw [← i3] at d3 d5
          left; omega
        · have i4 : us.length - 1 - a' = b := by omega
          have i5 : us.length - 1 - b' = a := by omega
          rw [i4] at d5 d6
          rw [i5] at d6
          right; omega
    · rw [gz] at d3
      rw [gl] at d5
      rcases hq' with ⟨rfl, rfl⟩ | ⟨hq0, rfl⟩
      · have := hle a 0 (by omega) (by omega) (by omega)
        have : a = 0 := by omega
        subst this
        left; omega
      · have := hlt (us.length - 1) b (by omega) (by omega) (by omega)
        omega
    · rw [gl] at d3 d5
      rcases hq' with ⟨rfl, rfl⟩ | ⟨hq0, rfl⟩
      · omega
      · have := hle a 0 (by omega) (by omega) (by omega)
        have : a = 0 := by omega
        subst this
        left; omega
  · rcases h' with ⟨d1, d2, d3, d4, d5, d6⟩ | ⟨rfl, rfl, d3, d5, d6⟩ | ⟨rfl, rfl, d3, d5, d6⟩
    · rw [mir_get (j := a') (by omega)] at d3
      rw [mir_get (j := b') d2] at d4
      have gc := h15 (us.length - 1 - a') (by omega)
      rcases hq' with ⟨rfl, rfl⟩ | ⟨hq0, rfl⟩
      · omega
      · have := hlt (us.length - 1 - b') 0 (by omega) (by omega) (by omega)
        omega
    · rw [gz] at d3 d6
      rw [gl] at d5 d6
      rcases hq' with ⟨rfl, rfl⟩ | ⟨hq0, rfl⟩
      · right; omega
      · omega
    · rw [gl] at d3 d5 d6
      rw [gz] at d6
      rcases hq' with ⟨rfl, rfl⟩ | ⟨hq0, rfl⟩
      · omega
      · right; omega
  · rcases h' with ⟨d1, d2, d3, d4, d5, d6⟩ | ⟨rfl, rfl, d3, d5, d6⟩ | ⟨rfl, rfl, d3, d5, d6⟩
    · rw [mir_get (j := a') (by omega)] at d3 d5
      have gc := h15 (us.length - 1 - a') (by omega)
      rcases hq' with ⟨rfl, rfl⟩ | ⟨hq0, rfl⟩
      · omega
      · have i1 := hle (us.length - 1) (us.length - 1 - a') (by omega) (by omega) (by omega)
        have : a' = 0 := by omega
        subst this
        have e : us.length - 1 - 0 = us.length - 1 := rfl
        rw [e] at d3 d5
        left; omega
    · rw [gz] at d3 d6
      rw [gl] at d5 d6
      rcases hq' with ⟨rfl, rfl⟩ | ⟨hq0, rfl⟩
      · omega
      · right; omega
    · rw [gl] at d3
      rcases hq' with ⟨rfl, rfl⟩ | ⟨hq0, rfl⟩ <;> omega
def fracW (m D : Nat) : Nat := fop .quo .f32 (t64 (m : Int)) (x32 (D : Int))
theorem frac_zero (D : Fin 33) : 1 ≤ D.val → fracW 0 D.val = 0 := by revert D; decide +kernel
theorem frac_pair (D : Fin 33) (m : Fin 65) : 1 ≤ D.val → m.val ≤ 2 * D.val → finW .f32 (fracW m.val D.val) = true ∧ (vl .f32 (fracW m.val D.val)).natAbs ≤ 2 ^ 149 ∧ 4194304 * (vl .f32 (fracW m.val D.val) + vl .f32 (fracW (2 * D.val - m.val) D.val) - ((2 ^ 149 : Nat) : Int)).natAbs ≤ 2 ^ 149 := by revert D m; decide +kernel
theorem rnd_self {k : FloatKind} {a : Nat} (h : finW k a = true) : rnd k.format (mg k a) (lp k) = rg k.format a :=
  rnd_exact k.format (u := 0) (v := 0) (Nat.le_of_lt (finW_lt h)) rfl rfl
theorem mix_zero {a c : Nat} (ha : finW .f32 a = true) (hc : finW .f32 c = true) : finW .f32 (fop .add .f32 a (fop .mul .f32 0 c)) = true ∧ vl .f32 (fop .add .f32 a (fop .mul .f32 0 c)) = vl .f32 a := by
  have h0 : finW .f32 0 = true := by decide +kernel
  have e0 : mg .f32 0 = 0 := by decide +kernel
  have hm : finW .f32 (fop .mul .f32 0 c) = true ∧ vl .f32 (fop .mul .f32 0 c) = 0 := by
    rw [mul_word h0 hc, e0, Nat.zero_mul, rnd_zero]
    refine ⟨?_, ?_⟩
    · unfold finW; rw [rg_word _ _ (Nat.zero_le _)]; decide
    · unfold vl
      rw [mg_word _ _ (Nat.zero_le _), rungV_zero]
      cases nn .f32 (FloatKind.f32.format.word (nn .f32 0 ^^ nn .f32 c) 0) <;> rfl
  obtain ⟨m1, m2⟩ := hm
  generalize fop .mul .f32 0 c = p at *
  rw [add_word ha m1, m2, Int.add_zero]
  have hr : rnd FloatKind.f32.format (vl .f32 a).natAbs (lp .f32) = rg FloatKind.f32.format a := by
    have : (vl .f32 a).natAbs = mg .f32 a := sg_abs _ _
    rw [this, rnd_self ha]
  rw [hr]
  have hi : rg FloatKind.f32.format a ≤ FloatKind.f32.format.infRung := Nat.le_of_lt (finW_lt ha)
  refine ⟨?_, ?_⟩
  · unfold finW; rw [rg_word _ _ hi]; exact ha
  · show sg (nn .f32 (FloatKind.f32.format.word _ _)) (mg .f32 (FloatKind.f32.format.word _ _)) = _
    rw [nn_word _ _ hi, mg_word _ _ hi]
    unfold sgn0
    by_cases hz : vl .f32 a = 0
    · have hz2 : rungV FloatKind.f32.format (rg FloatKind.f32.format a) = 0 := by
        have : (vl .f32 a).natAbs = mg .f32 a := sg_abs _ _
        rw [hz] at this
        exact this.symm
      rw [hz2, hz]
      cases (if (0 : Int) = 0 then nn .f32 a && nn .f32 p else decide ((0 : Int) < 0)) <;> rfl
    · rw [if_neg hz]
      unfold vl at hz ⊢
      have hp : mg .f32 a ≠ 0 := by
        intro h
        rw [h] at hz
        cases hn : nn .f32 a <;> rw [hn] at hz <;> exact hz rfl
      show sg _ (mg .f32 a) = _
      cases hn : nn .f32 a
      · simp only [sg, Bool.false_eq_true, if_false]
        rw [decide_eq_false (by omega)]
        rfl
      · simp only [sg, if_true]
        rw [decide_eq_true (by omega)]
        rfl
theorem mirror_mixed {us : List Int} {q q' : Int} {a b m D a' b' m' D' : Nat} {xs ys : List Nat} (hr : rise us) (h15 : ∀ j, j < us.length → us.getD j 0 ≤ 15) (hl : 2 ≤ us.length) (hq : -32 ≤ q ∧ q ≤ 31) (hq' : (q = -32 ∧ q' = -32) ∨ (q ≠ -32 ∧ q' = -q))
    (h : SegP us q a b m D) (h' : SegP (mir us) q' a' b' m' D') (hm : m ≤ 2 * D) (hD : 1 ≤ D) (hD2 : D ≤ 32) (hD' : 1 ≤ D') (hD2' : D' ≤ 32) (hal : a < us.length) (hbl : b < us.length) (hal' : a' < us.length) (hbl' : b' < us.length)
    (hys : ∀ j, j < us.length → ys.getD j 0 = fneg .f32 (xs.getD (us.length - 1 - j) 0))
    (hbd : ∀ j, j < us.length → (vl .f32 (xs.getD j 0)).natAbs ≤ 2097152 * 2 ^ 130)
    (hsub : ∀ a b, a < us.length → b < us.length → finW .f32 (xs.getD a 0) = true ∧ finW .f32 (fop .sub .f32 (xs.getD b 0) (xs.getD a 0)) = true ∧ vl .f32 (fop .sub .f32 (xs.getD b 0) (xs.getD a 0)) = vl .f32 (xs.getD b 0) - vl .f32 (xs.getD a 0)) :
    finW .f32 (mixed (xs.getD a 0) (xs.getD b 0) (fracW m D)) = true ∧ finW .f32 (mixed (ys.getD a' 0) (ys.getD b' 0) (fracW m' D')) = true ∧
    (vl .f32 (mixed (ys.getD a' 0) (ys.getD b' 0) (fracW m' D')) + vl .f32 (mixed (xs.getD a 0) (xs.getD b 0) (fracW m D))).natAbs ≤ 7 * 2 ^ 130 := by
  obtain ⟨s1, s2, s3⟩ := hsub a b hal hbl
  obtain ⟨t1, _, _⟩ := hsub b a hbl hal
  unfold mixed
  rcases seg_mirror hr h15 hl hq hq' h h' with ⟨rfl, rfl, _, e⟩ | ⟨e1, e2, rfl, e4⟩
  · rw [frac_zero ⟨D, by omega⟩ hD, frac_zero ⟨D', by omega⟩ hD']
    have ga : ys.getD a' 0 = fneg .f32 (xs.getD a 0) := by rw [hys a' hal', show us.length - 1 - a' = a by omega]
    have gb := hys b' hbl'
    obtain ⟨u1, u2, u3⟩ := hsub a (us.length - 1 - b') hal (by omega)
    obtain ⟨u4, u5, u6⟩ := hsub (us.length - 1 - b') a (by omega) hal
    obtain ⟨na, va⟩ := neg_vl u1
    obtain ⟨nb, vb⟩ := neg_vl u4
    obtain ⟨w1, w2⟩ := sub_same nb na u1 u4 (by rw [va, vb]; omega)
    rw [ga, gb]
    obtain ⟨p1, p2⟩ := mix_zero s1 s2
    obtain ⟨p3, p4⟩ := mix_zero na (w1.trans u5)
    refine ⟨p1, p3, ?_⟩
    rw [p2, p4, va]
    have : (-vl .f32 (xs.getD a 0) + vl .f32 (xs.getD a 0)) = 0 := by omega
    rw [this]
    exact Nat.zero_le _
  · have ga : ys.getD a' 0 = fneg .f32 (xs.getD b 0) := by rw [hys a' hal', show us.length - 1 - a' = b by omega]
    have gb : ys.getD b' 0 = fneg .f32 (xs.getD a 0) := by rw [hys b' hbl', show us.length - 1 - b' = a by omega]
    rw [ga, gb]
    obtain ⟨f1, f2, f3⟩ := frac_pair ⟨D', by omega⟩ ⟨m, by omega⟩ hD hm
    obtain ⟨g1, g2, _⟩ := frac_pair ⟨D', by omega⟩ ⟨2 * D' - m, by omega⟩ hD (by show 2 * D' - m ≤ 2 * D'; omega)
    simp only at f1 f2 f3 g1 g2
    have em : m' = 2 * D' - m := by omega
    rw [em]
    exact mirror_near rfl rfl s1 t1 (hbd a hal) (hbd b hbl) s2 s3 f1 g1 f2 g2 f3
theorem rg_of_mg {k : FloatKind} {x r : Nat} (h : mg k x ≤ rungV k.format r) : rg k.format x ≤ r := by
  rcases Nat.lt_or_ge r (rg k.format x) with g | g
  · have := rungV_lt k.format g
    unfold mg at h
    omega
  · exact g
theorem twice_mixed {a b a' b' f : Nat} (h1 : two .f32 a a') (hc : two .f32 (fop .sub .f32 b a) (fop .sub .f32 b' a')) (hf : rg FloatKind.f32.format f ≤ 1065353216) (hn : nn .f32 f = false)
    (hF : mg .f32 f = 0 ∨ 2 ^ 142 ≤ mg .f32 f) (hC : mg .f32 (fop .sub .f32 b a) = 0 ∨ 2 ^ 144 ≤ mg .f32 (fop .sub .f32 b a)) (ba : mg .f32 a ≤ 2 ^ 151) (bc : mg .f32 (fop .sub .f32 b a) ≤ 2 ^ 152) :
    two .f32 (mixed a b f) (mixed a' b' f) := by
  unfold mixed
  generalize fop .sub .f32 b a = c at *
  generalize fop .sub .f32 b' a' = c' at *
  have hff : finW .f32 f = true := finW_of hf (by decide)
  obtain ⟨p1, p2, p3⟩ := mul_unit hf hn hc.1
  have e152 : (2 : Nat) ^ 152 = rungV FloatKind.f32.format 1090519040 := by decide +kernel
  have r1 : rg FloatKind.f32.format (fop .mul .f32 f c) ≤ 1090519040 := rg_of_mg (by rw [← e152]; exact Nat.le_trans p3 bc)
  have hlim : FloatKind.f32.format.binade = 8388608 := by decide
  have hinf : FloatKind.f32.format.infRung = 2139095040 := by decide
  have tm : two .f32 (fop .mul .f32 f c) (fop .mul .f32 f c') := by
    refine two_mul (s := 149) hff hc (by decide +kernel) ?_ (by rw [hlim, hinf]; omega)
    rcases hF with hF | hF
    · left; rw [hF, Nat.zero_mul]
    · rcases hC with hC | hC
      · left; rw [hC, Nat.mul_zero]
      · right
        exact Nat.le_trans (by decide +kernel) (Nat.mul_le_mul hF hC)
  refine two_add h1 tm ?_
  have e151 : (2 : Nat) ^ 151 = rungV FloatKind.f32.format 1082130432 := by decide +kernel
  have r2 : rg FloatKind.f32.format a ≤ 1082130432 := rg_of_mg (by rw [← e151]; exact ba)
  have r3 : rg FloatKind.f32.format (fop .add .f32 a (fop .mul .f32 f c)) ≤ 1098907648 := add_rg (c := 1098907648) r2 r1 (by decide) (by decide) (by decide +kernel)
  rw [hlim, hinf]; omega
theorem l8_two (a b : Fin 33) : (finW .f32 (l8 ((a : Int) - 16)) = true ∧ finW .f32 (fop .mul .f32 (l8 ((a : Int) - 16)) 1073741824) = true ∧ nn .f32 (fop .mul .f32 (l8 ((a : Int) - 16)) 1073741824) = nn .f32 (l8 ((a : Int) - 16)) ∧ mg .f32 (fop .mul .f32 (l8 ((a : Int) - 16)) 1073741824) = 2 * mg .f32 (l8 ((a : Int) - 16))) ∧
    (finW .f32 (fop .sub .f32 (l8 ((b : Int) - 16)) (l8 ((a : Int) - 16))) = true ∧ finW .f32 (fop .sub .f32 (fop .mul .f32 (l8 ((b : Int) - 16)) 1073741824) (fop .mul .f32 (l8 ((a : Int) - 16)) 1073741824)) = true ∧
      nn .f32 (fop .sub .f32 (fop .mul .f32 (l8 ((b : Int) - 16)) 1073741824) (fop .mul .f32 (l8 ((a : Int) - 16)) 1073741824)) = nn .f32 (fop .sub .f32 (l8 ((b : Int) - 16)) (l8 ((a : Int) - 16))) ∧
      mg .f32 (fop .sub .f32 (fop .mul .f32 (l8 ((b : Int) - 16)) 1073741824) (fop .mul .f32 (l8 ((a : Int) - 16)) 1073741824)) = 2 * mg .f32 (fop .sub .f32 (l8 ((b : Int) - 16)) (l8 ((a : Int) - 16)))) ∧
    (mg .f32 (fop .sub .f32 (l8 ((b : Int) - 16)) (l8 ((a : Int) - 16))) = 0 ∨ 2 ^ 144 ≤ mg .f32 (fop .sub .f32 (l8 ((b : Int) - 16)) (l8 ((a : Int) - 16)))) ∧ mg .f32 (l8 ((a : Int) - 16)) ≤ 2 ^ 151 ∧ mg .f32 (fop .sub .f32 (l8 ((b : Int) - 16)) (l8 ((a : Int) - 16))) ≤ 2 ^ 152 := by revert a b; decide +kernel
theorem frac_big (D : Fin 33) (m : Fin 65) : 1 ≤ D.val → m.val ≤ 2 * D.val → mg .f32 (fracW m.val D.val) = 0 ∨ 2 ^ 142 ≤ mg .f32 (fracW m.val D.val) := by revert D m; decide +kernel
theorem twice_grid {x y : Int} {m D : Nat} (hx : -16 ≤ x ∧ x ≤ 16) (hy : -16 ≤ y ∧ y ≤ 16) (h1 : m ≤ 2 * D) (h2 : 1 ≤ D) (h3 : D ≤ 32) :
    two .f32 (mixed (l8 x) (l8 y) (fracW m D)) (mixed (fop .mul .f32 (l8 x) 1073741824) (fop .mul .f32 (l8 y) 1073741824) (fracW m D)) := by
  have g := l8_two ⟨(x + 16).toNat, by omega⟩ ⟨(y + 16).toNat, by omega⟩
  simp only at g
  rw [show (((x + 16).toNat : Int)) - 16 = x by omega, show (((y + 16).toNat : Int)) - 16 = y by omega] at g
  obtain ⟨t1, t2, t3, t4, t5⟩ := g
  obtain ⟨q1, q2⟩ := frac_unit h1 h2 h3
  exact twice_mixed t1 t2 q2 q1 (frac_big ⟨D, by omega⟩ ⟨m, by omega⟩ h2 h1) t3 t4 t5
def wr (q : Int) : Int := (q + 32) % 64 - 32
theorem wrap_q (q : Fin 256) : finB (t64 ((q : Int) - 128)) = true ∧ wrapV (t64 ((q : Int) - 128)) = t64 (wr ((q : Int) - 128)) := by revert q; decide +kernel
theorem same_t (q : Fin 64) : q.val ≠ 32 → t64 ((q : Int) - 32) = s64 ((q : Int) - 32) := by revert q; decide +kernel
theorem same_ts {q : Int} (h1 : -32 ≤ q) (h2 : q ≤ 31) (h : q ≠ 0) : t64 q = s64 q := by
  have := same_t ⟨(q + 32).toNat, by omega⟩ (by show (q + 32).toNat ≠ 32; omega)
  simp only at this
  rw [show (((q + 32).toNat : Int)) - 32 = q by omega] at this
  exact this
theorem y0_td (k : Fin 32) : fop .sub .f32 (t64 0) (x32 ((k : Int) - 47)) = t64 (0 - 2 * ((k : Int) - 47)) := by revert k; decide +kernel
theorem y0_ts (k : Fin 33) : fop .sub .f32 (t64 0) (y32 ((k : Int) - 16)) = t64 (0 - 2 * ((k : Int) - 16)) := by revert k; decide +kernel
theorem y0_gt (k : Fin 33) : fcmp .gtr .f32 (y32 ((k : Int) - 16)) (t64 0) = decide ((0 : Int) < 2 * ((k : Int) - 16)) := by revert k; decide +kernel
theorem grid_y32t : GridW y32 t64 where
  td {q k} h1 h2 h3 h4 := by
    by_cases h : q = 0
    · subst h
      exact at_int (P := fun k => fop .sub .f32 (t64 0) (x32 k) = t64 (0 - 2 * k)) y0_td h3 (by omega)
    · have := grid_y32.td h1 h2 h3 h4
      rw [← same_ts h1 h2 h] at this
      exact this
  ts {q k} h1 h2 h3 h4 := by
    by_cases h : q = 0
    · subst h
      exact at_int (P := fun k => fop .sub .f32 (t64 0) (y32 k) = t64 (0 - 2 * k)) y0_ts h3 (by omega)
    · have := grid_y32.ts h1 h2 h3 h4
      rw [← same_ts h1 h2 h] at this
      exact this
  ss := grid_y32.ss
  sd := grid_y32.sd
  su := grid_y32.su
  dn := grid_y32.dn
  up := grid_y32.up
  gt {k q} h1 h2 h3 h4 := by
    by_cases h : q = 0
    · subst h
      exact at_int (P := fun k => fcmp .gtr .f32 (y32 k) (t64 0) = decide ((0 : Int) < 2 * k)) y0_gt h1 (by omega)
    · have := grid_y32.gt h1 h2 h3 h4
      rw [← same_ts h3 h4 h] at this
      exact this
theorem knot_q (u : Fin 32) : finB (x32 ((u : Int) - 16)) = true ∧ wrapV (x32 ((u : Int) - 16)) = t64 (2 * ((u : Int) - 16)) := by revert u; decide +kernel
theorem seg_knot {us : List Int} {i a b m D : Nat} (hr : rise us) (hi : i < us.length) (h : SegP us (2 * us.getD i 0) a b m D) : a = i ∧ m = 0 := by
  have hlt : ∀ i j, i < us.length → j < us.length → us.getD i 0 < us.getD j 0 → i < j := by
    intro i j hi hj h
    rcases Nat.lt_trichotomy i j with g | g | g
    · exact g
    · subst g; omega
    · have := hr.2 j i g hi; omega
  have hle : ∀ i j, i < us.length → j < us.length → us.getD i 0 ≤ us.getD j 0 → i ≤ j := by
    intro i j hi hj h
    rcases Nat.lt_or_ge j i with g | g
    · have := hr.2 j i g hi; omega
    · exact g
  rcases h with ⟨e1, e2, e3, e4, e5, e6⟩ | ⟨rfl, rfl, e3, e5, e6⟩ | ⟨rfl, rfl, e3, e5, e6⟩
  · have i1 := hle a i (by omega) hi (by omega)
    have i2 := hlt i b hi e2 (by omega)
    have i3 : a = i := by omega
    subst i3
    exact ⟨rfl, by omega⟩
  · have := hlt i 0 hi (by omega) (by omega)
    omega
  · have i1 := hle (us.length - 1) i (by omega) hi (by omega)
    have i3 : us.length - 1 = i := by omega
    rw [i3] at e5
    exact ⟨i3, by omega⟩
def findA : List Nat → Nat → Nat
  | [], _ => 0
  | a :: r, t => if fcmp .gtr .f32 a t = true then 0 else findA r t + 1
theorem findA_eq : ∀ (as : List Nat) (t j : Nat), j ≤ as.length → (∀ l, l < j → aboveB as t l = false) → (j < as.length → aboveB as t j = true) → findA as t = j
  | [], t, j, h, _, _ => by
    simp only [List.length_nil] at h
    unfold findA; omega
  | a :: r, t, 0, _, _, h => by
    have h0 := h (by simp)
    unfold aboveB at h0
    simp only [List.getD_cons_zero] at h0
    unfold findA
    rw [if_pos h0]
  | a :: r, t, j + 1, h1, h2, h3 => by
    have h0 := h2 0 (by omega)
    unfold aboveB at h0
    simp only [List.getD_cons_zero] at h0
    unfold findA
    rw [if_neg (by rw [h0]; decide)]
    rw [findA_eq r t j (by simpa using h1) (fun l hl => by have := h2 (l + 1) (by omega); unfold aboveB at this ⊢; simpa using this) (fun hj => by have := h3 (by simpa using hj); unfold aboveB at this ⊢; simpa using this)]
def atW (as xs : List Nat) (t : Nat) : Nat :=
  mixed (xs.getD (pairR as (findA as t)).1 0) (xs.getD (pairR as (findA as t)).2.1 0) (if fcmp .neq .f32 (pairR as (findA as t)).2.2.1 (pairR as (findA as t)).2.2.2 = true then fop .quo .f32 (fop .sub .f32 t (pairR as (findA as t)).2.2.1) (fop .sub .f32 (pairR as (findA as t)).2.2.2 (pairR as (findA as t)).2.2.1) else 0)
theorem at_any {as ls ds xs : List Nat} {x : Nat} (hv : validProfB as ls ds = true) (hx : finB x = true) (hl : xs.length = as.length) :
    z5v as.length as ls.length ls ds.length ds xs.length xs x = some (atW as xs (wrapV x)) := by
  obtain ⟨j, hj, ha, hb, h1⟩ := pair_eq2 hv hx
  obtain ⟨f1, f2, f3, f4⟩ := knots_fin hv hj
  unfold atW
  rw [findA_eq as (wrapV x) j hj ha hb]
  generalize pairR as j = P at *
  obtain ⟨a, b, low, high⟩ := P
  simp only at h1 f1 f2 f3 f4 ⊢
  obtain ⟨i0, i1, i2, i3, i4, i5⟩ := zfq h1
  have oa : okIx (Int.ofNat a) xs.length = true := okIx_t (by omega)
  have ob : okIx (Int.ofNat b) xs.length = true := okIx_t (by omega)
  unfold z5v z5x
  have m := fun p q s => zme (show zbq p q s = some (mixed p q s) from rfl)
  simp only [pF_all, i0, i1, i2, i3, i4, i5, oa, ob, ix1, gF, grd_true, (m _ _ _).1, (m _ _ _).2]
  cases fcmp .neq .f32 low high <;> rfl
theorem LiftAt_any {as ls ds : List Nat} {x : Nat} (hv : validProfB as ls ds = true) (hx : finB x = true) (hf : finB (atW as ls (wrapV x)) = true) :
    z7a as.length as ls.length ls ds.length ds x = some (atW as ls (wrapV x), true) := by
  obtain ⟨c1, c2, c3, c4⟩ := validProfB_len hv
  obtain ⟨p1, q1⟩ := z38 (impl_ValidProfile_eq (as := as) (ls := ls) (ds := ds) (by omega) (by omega))
  obtain ⟨p2, q2⟩ := z4g (impl_IsFinite_eq x)
  obtain ⟨p3, q3⟩ := zk2 (at_any hv hx c3)
  obtain ⟨p4, q4, r4⟩ := z6p (impl_checked_eq (atW as ls (wrapV x)))
  have hk : checkV (atW as ls (wrapV x)) = atW as ls (wrapV x) := by unfold checkV; rw [if_pos hf]
  rw [hk] at q4
  rw [hf] at r4
  unfold z7a z87
  simp only [pF_all, p1, q1, p2, q2, hv, hx, p3, q3, p4, q4, r4, grd_true, bnot_true, br_false, Bool.and_self, if_true]
theorem getD_map {α β : Type} {f : α → β} {xs : List α} {j : Nat} {d : α} {e : β} (h : j < xs.length) : (xs.map f).getD j e = f (xs.getD j d) := by
  simp [List.getD_eq_getElem?_getD, h]
theorem getD_rev {α : Type} {xs : List α} {j : Nat} {d : α} (h : j < xs.length) : xs.reverse.getD j d = xs.getD (xs.length - 1 - j) d := by
  rw [List.getD_eq_getElem?_getD, List.getElem?_reverse h, List.getD_eq_getElem?_getD]
def mirA (xs : List Nat) : List Nat := (xs.map (fneg .f32)).reverse
def dblL (xs : List Nat) : List Nat := xs.map fun x => fop .mul .f32 x 1073741824
theorem mirA_length (xs : List Nat) : (mirA xs).length = xs.length := by simp [mirA]
theorem dblL_length (xs : List Nat) : (dblL xs).length = xs.length := by simp [dblL]
theorem mirA_get {xs : List Nat} {j : Nat} (h : j < xs.length) : (mirA xs).getD j 0 = fneg .f32 (xs.getD (xs.length - 1 - j) 0) := by
  unfold mirA
  rw [getD_rev (by simpa using h), List.length_map, getD_map (by omega)]
theorem dblL_get {xs : List Nat} {j : Nat} (h : j < xs.length) : (dblL xs).getD j 0 = fop .mul .f32 (xs.getD j 0) 1073741824 := by
  unfold dblL
  rw [getD_map h]
theorem finB_neg {x : Nat} (h : finB x = true) : finB (fneg .f32 x) = true := by
  rw [finB_eq] at h ⊢
  exact (neg_vl h).1
theorem scaled_valid {as ls ds ls' ds' : List Nat} (hv : validProfB as ls ds = true) (l1 : ls'.length = as.length) (l2 : ds'.length = as.length) (h1 : ∀ j, j < as.length → finB (ls'.getD j 0) = true) (h2 : ∀ j, j < as.length → leastB (ds'.getD j 0) = true) :
    validProfB as ls' ds' = true := by
  have hk := prof_knots hv
  obtain ⟨c1, c2, c3, c4⟩ := validProfB_len hv
  unfold validProfB
  simp only [Bool.and_eq_true, decide_eq_true_eq]
  refine ⟨c1, c2, l1, l2, range_all.2 fun j hj => ?_⟩
  unfold profB
  rw [hk j hj, h1 j hj, h2 j hj]; rfl
theorem prof_num {as ls ds : List Nat} (h : validProfB as ls ds = true) {j : Nat} (hj : j < as.length) : finB (as.getD j 0) = true ∧ finB (ls.getD j 0) = true ∧ leastB (ds.getD j 0) = true := by
  have hk := prof_knots h j hj
  unfold validProfB at h
  simp only [Bool.and_eq_true] at h
  have := range_all.1 h.2.2.2.2 j hj
  unfold profB at this
  simp only [Bool.and_eq_true] at this
  refine ⟨?_, this.2⟩
  rw [finB_eq]
  exact finW_of (knot_rg hk) (by decide +kernel)
theorem mirror_valid {as ls ds : List Nat} (hv : validProfB as ls ds = true) : validProfB (mirA as) (mirA ls) ds.reverse = true := by
  obtain ⟨c1, c2, c3, c4⟩ := validProfB_len hv
  have hk := prof_knots hv
  unfold validProfB
  simp only [Bool.and_eq_true, decide_eq_true_eq, mirA_length, List.length_reverse]
  refine ⟨c1, c2, c3, c4, range_all.2 fun j hj => ?_⟩
  obtain ⟨f1, f2, f3⟩ := prof_num hv (show as.length - 1 - j < as.length by omega)
  unfold profB
  rw [mirA_get (xs := ls) (by omega), c3, finB_neg f2, getD_rev (by omega), c4, f3]
  simp only [Bool.and_self, Bool.and_true]
  have hA := hk (as.length - 1 - j) (by omega)
  rw [finB_eq] at f1
  obtain ⟨n1, n2⟩ := neg_vl f1
  have w1 : finW .f32 3204448256 = true := by decide +kernel
  have w2 : finW .f32 1056964608 = true := by decide +kernel
  have w3 : vl .f32 3204448256 = - vl .f32 1056964608 := by decide +kernel
  unfold knotB
  rw [mirA_get hj]
  have hf : fromToB (fneg .f32 (as.getD (as.length - 1 - j) 0)) 3204448256 1056964608 = true := by
    unfold knotB at hA
    rw [Bool.and_eq_true] at hA
    have := hA.1
    unfold fromToB at this ⊢
    rw [(fcmp_vl f1 w1).2.2.2.2.2, (fcmp_vl f1 w2).2.2.2.1] at this
    rw [(fcmp_vl n1 w1).2.2.2.2.2, (fcmp_vl n1 w2).2.2.2.1, n2]
    simp only [Bool.and_eq_true, decide_eq_true_eq] at this ⊢
    omega
  rw [hf, Bool.true_and]
  by_cases h0 : j = 0
  · subst h0; rfl
  · rw [decide_eq_false h0, Bool.false_or, mirA_get (show j - 1 < as.length by omega)]
    obtain ⟨g1, _, _⟩ := prof_num hv (show as.length - 1 - (j - 1) < as.length by omega)
    rw [finB_eq] at g1
    obtain ⟨m1, m2⟩ := neg_vl g1
    have hB := hk (as.length - 1 - (j - 1)) (by omega)
    unfold knotB at hB
    rw [decide_eq_false (by omega), Bool.false_or, Bool.and_eq_true, show as.length - 1 - (j - 1) - 1 = as.length - 1 - j by omega] at hB
    have := hB.2
    rw [(fcmp_vl g1 f1).2.2.2.1] at this
    rw [(fcmp_vl n1 m1).2.2.2.1, n2, m2]
    simp only [Bool.not_eq_true', decide_eq_false_iff_not] at this ⊢
    omega
def mq (q : Int) : Int := if q = -32 then -32 else - q
structure GoodP (as ls ds : List Nat) : Prop where
  valid : validProfB as ls ds = true
  kl : ∀ i, i < as.length → finB (atW as ls (wrapV (as.getD i 0))) = true ∧ (fcmp .lss .f32 (as.getD i 0) 1056964608 = true → fcmp .neq .f32 (atW as ls (wrapV (as.getD i 0))) (ls.getD i 0) = false)
  kd : ∀ i, i < as.length → finB (atW as ds (wrapV (as.getD i 0))) = true ∧ (fcmp .lss .f32 (as.getD i 0) 1056964608 = true → fcmp .neq .f32 (atW as ds (wrapV (as.getD i 0))) (ds.getD i 0) = false)
  lift : ∀ q : Int, -32 ≤ q → q ≤ 31 → finW .f32 (atW as ls (t64 q)) = true ∧ (∃ a, a < as.length ∧ vl .f32 (ls.getD a 0) ≤ vl .f32 (atW as ls (t64 q))) ∧ ∃ a, a < as.length ∧ vl .f32 (atW as ls (t64 q)) ≤ vl .f32 (ls.getD a 0)
  drag : ∀ q : Int, -32 ≤ q → q ≤ 31 → finW .f32 (atW as ds (t64 q)) = true ∧ 0 ≤ vl .f32 (atW as ds (t64 q))
  mir : ∀ (q : Int) (t : Nat), -32 ≤ q → q ≤ 31 → t = s64 (mq q) ∨ t = t64 (mq q) → finW .f32 (atW (mirA as) (mirA ls) t) = true ∧ (vl .f32 (atW (mirA as) (mirA ls) t) + vl .f32 (atW as ls (t64 q))).natAbs ≤ 2 ^ 135
  twice : ∀ q : Int, -32 ≤ q → q ≤ 31 → two .f32 (atW as ls (t64 q)) (atW as (dblL ls) (t64 q))
  dvalid : validProfB as (dblL ls) (dblL ds) = true
theorem mq_rg {q : Int} (h1 : -32 ≤ q) (h2 : q ≤ 31) : -32 ≤ mq q ∧ mq q ≤ 31 := by unfold mq; split <;> omega
theorem grid_seg {X T : Int → Nat} (hX : GridW X T) {us : List Int} {q : Int} {t : Nat} (hg : rise us) (hl : 2 ≤ us.length) (hq : -32 ≤ q ∧ q ≤ 31) (ht : t = T q)
    {ls ds : List Nat} (hv : validProfB (us.map X) ls ds = true) :
    ∃ (m D a b : Nat), SegP us q a b m D ∧ m ≤ 2 * D ∧ 1 ≤ D ∧ D ≤ 32 ∧ a < us.length ∧ b < us.length ∧ ∀ xs : List Nat, atW (us.map X) xs t = mixed (xs.getD a 0) (xs.getD b 0) (fracW m D) := by
  subst ht
  have hlen : (us.map X).length = us.length := List.length_map _
  have key : ∃ j, j ≤ us.length ∧ (∀ l, l < j → aboveB (us.map X) (T q) l = false) ∧ (j < us.length → aboveB (us.map X) (T q) j = true) := by
    have hgt : ∀ j, j < us.length → aboveB (us.map X) (T q) j = decide (q < 2 * us.getD j 0) := fun j hj => by
      unfold aboveB
      rw [map_getD X us hj]
      have := hg.1 j hj
      exact hX.gt this.1 this.2 hq.1 hq.2
    have find : ∀ n, (∃ j, j < n ∧ j < us.length ∧ (∀ l, l < j → aboveB (us.map X) (T q) l = false) ∧ aboveB (us.map X) (T q) j = true) ∨ ∀ l, l < n → l < us.length → aboveB (us.map X) (T q) l = false := by
      intro n
      induction n with
      | zero => exact .inr fun l hl => by omega
      | succ n ih =>
        rcases ih with ⟨j, h1, h2, h3, h4⟩ | h
        · exact .inl ⟨j, by omega, h2, h3, h4⟩
        · by_cases hn : n < us.length
          · cases hb : aboveB (us.map X) (T q) n with
            | true => exact .inl ⟨n, by omega, hn, fun l hl => h l hl (by omega), hb⟩
            | false =>
              refine .inr fun l hl1 hl2 => ?_
              by_cases e : l = n
              · rw [e]; exact hb
              · exact h l (by omega) hl2
          · exact .inr fun l hl1 hl2 => h l (by omega) hl2
    rcases find us.length with ⟨j, h1, h2, h3, h4⟩ | h
    · exact ⟨j, by omega, h3, fun _ => h4⟩
    · exact ⟨us.length, Nat.le_refl _, fun l hl => h l hl hl, fun h => by omega⟩
  obtain ⟨j, hj, ha, hb⟩ := key
  obtain ⟨m, D, k1, k2, k3, k4, k5, k6, k7, k8⟩ := seg_grid hX hg hl hq hj ha hb
  refine ⟨m, D, (pairR (us.map X) j).1, (pairR (us.map X) j).2.1, k8, k1, k2, k3, k6, k7, fun xs => ?_⟩
  unfold atW
  rw [findA_eq (us.map X) (T q) j (by rw [hlen]; exact hj) ha (fun h => hb (by rw [hlen] at h; exact h))]
  have hne : fcmp .neq .f32 (pairR (us.map X) j).2.2.1 (pairR (us.map X) j).2.2.2 = true := by
    have f1 : finW .f32 (pairR (us.map X) j).2.2.1 = true ∧ finW .f32 (pairR (us.map X) j).2.2.2 = true := let h := knots_fin hv (show j ≤ (us.map X).length by rw [hlen]; exact hj); ⟨h.1, h.2.1⟩
    have : fcmp .neq .f32 (pairR (us.map X) j).2.2.1 (pairR (us.map X) j).2.2.2 = !fcmp .eql .f32 (fop .sub .f32 (pairR (us.map X) j).2.2.2 (pairR (us.map X) j).2.2.1) 0 := by rw [sub_zero f1.2 f1.1, neq_eql (finW_nan f1.1) (finW_nan f1.2)]
    rw [this, k5, x_zero ⟨D, by omega⟩ k2]; rfl
  rw [if_pos hne, k4, k5]
  rfl
theorem mir_map (us : List Int) : (mir us).map y32 = mirA (us.map x32) := by
  unfold mir mirA
  rw [List.map_reverse, List.map_map, List.map_map]
  congr 1
  refine List.map_congr_left fun u _ => ?_
  show fneg .f32 (x32 (- -u)) = fneg .f32 (x32 u)
  rw [Int.neg_neg]
theorem fin_between {a b x : Nat} (ha : finW .f32 a = true) (hb : finW .f32 b = true) (h : (srung FloatKind.f32.format a ≤ srung FloatKind.f32.format x ∧ srung FloatKind.f32.format x ≤ srung FloatKind.f32.format b) ∨ (srung FloatKind.f32.format b ≤ srung FloatKind.f32.format x ∧ srung FloatKind.f32.format x ≤ srung FloatKind.f32.format a)) : finW .f32 x = true := by
  have h1 := finW_lt ha
  have h2 := finW_lt hb
  have abs : ∀ y, (srung FloatKind.f32.format y).natAbs = rg FloatKind.f32.format y := fun y => by
    unfold srung sg
    split <;> simp
  have e1 := abs a; have e2 := abs b; have e3 := abs x
  have : rg FloatKind.f32.format x < FloatKind.f32.format.infRung := by omega
  exact decide_eq_true this
theorem l8_bd (v : Fin 33) : (vl .f32 (l8 ((v : Int) - 16))).natAbs ≤ 2097152 * 2 ^ 130 := by revert v; decide +kernel
theorem d32_two (w : Fin 17) : leastB (fop .mul .f32 (x32 (w : Int)) 1073741824) = true := by revert w; decide +kernel
theorem grid_good {u : Int} {us vs ws : List Int} (hu1 : -16 ≤ u) (hu2 : u ≤ -8) (hc : climb u us) (hn1 : 2 ≤ us.length) (hn2 : us.length ≤ 6) (hv : vs.length = us.length) (hw : ws.length = us.length) (hvs : ∀ v ∈ vs, -6 ≤ v ∧ v ≤ 10) (hws : ∀ w ∈ ws, 0 ≤ w ∧ w ≤ 8) :
    GoodP (us.map x32) (vs.map l8) (ws.map x32) := by
  have hV := drawn_valid (.inr ⟨u, us, vs, ws, hu1, hu2, hc, hn1, hn2, hv, hw, hvs, hws, rfl, rfl, rfl⟩)
  have hr := drawn_rise ⟨hu1, hu2⟩ hc hn2
  have h15 : ∀ j, j < us.length → us.getD j 0 ≤ 15 := fun j hj => by have := (climb_get hc j hj).2; omega
  have bl : ∀ j, j < us.length → -16 ≤ vs.getD j 0 ∧ vs.getD j 0 ≤ 16 := fun j hj => by have := hvs _ (getD_mem (xs := vs) (j := j) (by omega)); omega
  have bd : ∀ j, j < us.length → 0 ≤ ws.getD j 0 ∧ ws.getD j 0 ≤ 16 := fun j hj => by have := hws _ (getD_mem (xs := ws) (j := j) (by omega)); omega
  have gl : ∀ j, j < us.length → (vs.map l8).getD j 0 = l8 (vs.getD j 0) := fun j hj => map_getD l8 vs (by omega)
  have gd : ∀ j, j < us.length → (ws.map x32).getD j 0 = x32 (ws.getD j 0) := fun j hj => map_getD x32 ws (by omega)
  have hsubL : ∀ a b, a < us.length → b < us.length → finW .f32 ((vs.map l8).getD a 0) = true ∧ finW .f32 (fop .sub .f32 ((vs.map l8).getD b 0) ((vs.map l8).getD a 0)) = true ∧ vl .f32 (fop .sub .f32 ((vs.map l8).getD b 0) ((vs.map l8).getD a 0)) = vl .f32 ((vs.map l8).getD b 0) - vl .f32 ((vs.map l8).getD a 0) := fun a b ha hb => by
    rw [gl a ha, gl b hb]; exact gl_sub (bl a ha).1 (bl a ha).2 (bl b hb).1 (bl b hb).2
  have hsubD : ∀ a b, a < us.length → b < us.length → finW .f32 ((ws.map x32).getD a 0) = true ∧ finW .f32 (fop .sub .f32 ((ws.map x32).getD b 0) ((ws.map x32).getD a 0)) = true ∧ vl .f32 (fop .sub .f32 ((ws.map x32).getD b 0) ((ws.map x32).getD a 0)) = vl .f32 ((ws.map x32).getD b 0) - vl .f32 ((ws.map x32).getD a 0) := fun a b ha hb => by
    rw [gd a ha, gd b hb]; exact gd_sub (bd a ha).1 (bd a ha).2 (bd b hb).1 (bd b hb).2
  have seg := fun (q : Int) (h1 : -32 ≤ q) (h2 : q ≤ 31) => grid_seg grid_x32 (q := q) hr hn1 ⟨h1, h2⟩ rfl hV
  have between : ∀ (xs : List Nat), (∀ a b, a < us.length → b < us.length → finW .f32 (xs.getD a 0) = true ∧ finW .f32 (fop .sub .f32 (xs.getD b 0) (xs.getD a 0)) = true ∧ vl .f32 (fop .sub .f32 (xs.getD b 0) (xs.getD a 0)) = vl .f32 (xs.getD b 0) - vl .f32 (xs.getD a 0)) →
      ∀ q, -32 ≤ q → q ≤ 31 → ∃ a b, a < us.length ∧ b < us.length ∧ finW .f32 (atW (us.map x32) xs (t64 q)) = true ∧ ((vl .f32 (xs.getD a 0) ≤ vl .f32 (atW (us.map x32) xs (t64 q)) ∧ vl .f32 (atW (us.map x32) xs (t64 q)) ≤ vl .f32 (xs.getD b 0))) := by
    intro xs hs q h1 h2
    obtain ⟨m, D, a, b, _, k1, k2, k3, k4, k5, k6⟩ := seg q h1 h2
    rw [k6 xs]
    obtain ⟨s1, s2, s3⟩ := hs a b k4 k5
    obtain ⟨s4, _, _⟩ := hs b a k5 k4
    obtain ⟨q1, q2⟩ := frac_unit k1 k2 k3
    have hm := mix_between s1 s4 q2 q1 s2 s3
    rcases Int.le_total (vl .f32 (xs.getD a 0)) (vl .f32 (xs.getD b 0)) with h | h
    · have hh := hm.1 h
      exact ⟨a, b, k4, k5, fin_between s1 s4 (.inl hh), vl_le.2 hh.1, vl_le.2 hh.2⟩
    · have hh := hm.2 h
      exact ⟨b, a, k5, k4, fin_between s1 s4 (.inr hh), vl_le.2 hh.1, vl_le.2 hh.2⟩
  have knot : ∀ (xs : List Nat), (∀ a b, a < us.length → b < us.length → finW .f32 (xs.getD a 0) = true ∧ finW .f32 (fop .sub .f32 (xs.getD b 0) (xs.getD a 0)) = true ∧ vl .f32 (fop .sub .f32 (xs.getD b 0) (xs.getD a 0)) = vl .f32 (xs.getD b 0) - vl .f32 (xs.getD a 0)) →
      ∀ i, i < us.length → finB (atW (us.map x32) xs (wrapV ((us.map x32).getD i 0))) = true ∧ fcmp .neq .f32 (atW (us.map x32) xs (wrapV ((us.map x32).getD i 0))) (xs.getD i 0) = false := by
    intro xs hs i hi
    have r1 := (hr.1 i hi).1
    have r2 := h15 i hi
    have hk := knot_q ⟨(us.getD i 0 + 16).toNat, by omega⟩
    simp only at hk
    rw [show (((us.getD i 0 + 16).toNat : Int)) - 16 = us.getD i 0 by omega] at hk
    rw [map_getD x32 us hi, hk.2]
    obtain ⟨m, D, a, b, k0, k1, k2, k3, k4, k5, k6⟩ := seg (2 * us.getD i 0) (by omega) (by omega)
    obtain ⟨rfl, rfl⟩ := seg_knot hr hi k0
    rw [k6 xs, frac_zero ⟨D, by omega⟩ k2]
    obtain ⟨s1, s2, s3⟩ := hs a b k4 k5
    obtain ⟨z1, z2⟩ := mix_zero s1 s2
    unfold mixed
    rw [finB_eq]
    refine ⟨z1, ?_⟩
    rw [(fcmp_vl z1 s1).2.1, z2]
    simp
  refine ⟨hV, ?_, ?_, ?_, ?_, ?_, ?_, ?_⟩
  · intro i hi
    rw [List.length_map] at hi
    obtain ⟨k1, k2⟩ := knot _ hsubL i hi
    exact ⟨k1, fun _ => k2⟩
  · intro i hi
    rw [List.length_map] at hi
    obtain ⟨k1, k2⟩ := knot _ hsubD i hi
    exact ⟨k1, fun _ => k2⟩
  · intro q h1 h2
    obtain ⟨a, b, ha, hb, hf, l1, l2⟩ := between _ hsubL q h1 h2
    exact ⟨hf, ⟨a, by rw [List.length_map]; exact ha, l1⟩, ⟨b, by rw [List.length_map]; exact hb, l2⟩⟩
  · intro q h1 h2
    obtain ⟨a, b, ha, hb, hf, l1, l2⟩ := between _ hsubD q h1 h2
    refine ⟨hf, Int.le_trans ?_ l1⟩
    rw [gd a ha]
    have := bd a ha
    have hm := x32_mg ⟨(ws.getD a 0).toNat, by omega⟩
    simp only at hm
    rw [show (((ws.getD a 0).toNat : Int)) = ws.getD a 0 by omega] at hm
    unfold vl
    rw [hm.2.2]
    simp [sg]
  · intro q t h1 h2 ht
    obtain ⟨m, D, a, b, k0, k1, k2, k3, k4, k5, k6⟩ := seg q h1 h2
    have hmv := mirror_valid hV
    rw [← mir_map] at hmv ⊢
    have hmq := mq_rg h1 h2
    have hmr := mir_rise hr
    have hml : 2 ≤ (mir us).length := by rw [mir_length]; exact hn1
    obtain ⟨m', D', a', b', j0, j1, j2, j3, j4, j5, j6⟩ : ∃ (m D a b : Nat), SegP (mir us) (mq q) a b m D ∧ m ≤ 2 * D ∧ 1 ≤ D ∧ D ≤ 32 ∧ a < (mir us).length ∧ b < (mir us).length ∧ ∀ xs : List Nat, atW ((mir us).map y32) xs t = mixed (xs.getD a 0) (xs.getD b 0) (fracW m D) := by
      rcases ht with ht | ht
      · exact grid_seg grid_y32 hmr hml hmq ht hmv
      · exact grid_seg grid_y32t hmr hml hmq ht hmv
    rw [mir_length] at j4 j5
    rw [j6, k6]
    have hq' : (q = -32 ∧ mq q = -32) ∨ (q ≠ -32 ∧ mq q = -q) := by
      unfold mq
      by_cases e : q = -32
      · exact .inl ⟨e, if_pos e⟩
      · exact .inr ⟨e, if_neg e⟩
    obtain ⟨f1, f2, f3⟩ := mirror_mixed (xs := vs.map l8) (ys := mirA (vs.map l8)) hr h15 hn1 ⟨h1, h2⟩ hq' k0 j0 k1 k2 k3 j2 j3 k4 k5 j4 j5
      (fun j hj => by rw [mirA_get (by rw [List.length_map]; omega), List.length_map, hv])
      (fun j hj => by
        rw [gl j hj]
        have := bl j hj
        have hb := l8_bd ⟨(vs.getD j 0 + 16).toNat, by omega⟩
        simp only at hb
        rw [show (((vs.getD j 0 + 16).toNat : Int)) - 16 = vs.getD j 0 by omega] at hb
        exact hb) hsubL
    exact ⟨f2, Nat.le_trans f3 (by decide +kernel)⟩
  · intro q h1 h2
    obtain ⟨m, D, a, b, k0, k1, k2, k3, k4, k5, k6⟩ := seg q h1 h2
    rw [k6, k6, dblL_get (by rw [List.length_map]; omega), dblL_get (by rw [List.length_map]; omega), gl a k4, gl b k5]
    exact twice_grid (bl a k4) (bl b k5) k1 k2 k3
  · refine scaled_valid hV (by rw [dblL_length, List.length_map, List.length_map, hv]) (by rw [dblL_length, List.length_map, List.length_map, hw]) (fun j hj => ?_) (fun j hj => ?_)
    · rw [List.length_map] at hj
      rw [dblL_get (by rw [List.length_map]; omega), gl j hj, finB_eq]
      have := bl j hj
      have g := l8_two ⟨(vs.getD j 0 + 16).toNat, by omega⟩ ⟨(vs.getD j 0 + 16).toNat, by omega⟩
      simp only at g
      rw [show (((vs.getD j 0 + 16).toNat : Int)) - 16 = vs.getD j 0 by omega] at g
      exact g.1.2.1
    · rw [List.length_map] at hj
      rw [dblL_get (by rw [List.length_map]; omega), gd j hj]
      have := bd j hj
      have g := d32_two ⟨(ws.getD j 0).toNat, by omega⟩
      simp only at g
      rw [show (((ws.getD j 0).toNat : Int)) = ws.getD j 0 by omega] at g
      exact g
theorem nx_r1 {xs : List Int} {n : Nat} {a s : Int} (hx : byteL xs) (h0 : 0 ≤ a) (h1 : a ≤ 1099511627776) :
    ∃ r a' s', z2m xs n a s = true ∧ z0n xs n a s = r ∧ z06 xs n a s = a' ∧ z07 xs n a s = s' ∧ (0 ≤ r ∧ r ≤ 255) ∧ (0 ≤ a' ∧ a' ≤ a + 1) := by
  obtain ⟨r, a', s', h, hb⟩ := nx_ok (n := n) (s := s) hx h0 h1
  obtain ⟨m, hm⟩ := big_succ
  obtain ⟨p, q0, q1, q2⟩ := zco (m := big) rfl (show z0s xs n a s big = some (r, a', s') by rw [hm, zbo]; exact h)
  exact ⟨r, a', s', p, q0, q1, q2, hb⟩
theorem nx_r2 {xs : List Int} {n : Nat} {a s : Int} (hx : byteL xs) (h0 : 0 ≤ a) (h1 : a ≤ 1099511627776) :
    ∃ r a' s', z0z xs n a s = true ∧ z0b xs n a s = r ∧ z08 xs n a s = a' ∧ z09 xs n a s = s' ∧ (0 ≤ r ∧ r ≤ 255) ∧ (0 ≤ a' ∧ a' ≤ a + 1) := by
  obtain ⟨r, a', s', h, hb⟩ := nx_ok (n := n) (s := s) hx h0 h1
  obtain ⟨m, hm⟩ := big_succ
  obtain ⟨p, q0, q1, q2⟩ := zbz (m := big) rfl (show z0o xs n a s big = some (r, a', s') by rw [hm, zbd]; exact h)
  exact ⟨r, a', s', p, q0, q1, q2, hb⟩
theorem r8_draw {xs : List Int} {n : Nat} (hx : byteL xs) : ∀ (m : Nat) (u a s : Int) (us ls ds : List Int) (f : Nat), m < f → -16 ≤ u → u + 4 * m ≤ 16 → 0 ≤ a → a + 3 * m ≤ 1099511627776 → ls.length = us.length → ds.length = us.length → us.length + m ≤ 100 →
    ∃ us' ls' ds' u' a' s', z0h xs n f (x32 u) (Int.ofNat m) a s us.length us.length us.length (us.map x32) (ls.map l8) (ds.map x32) = some (x32 u', 0, false, a', s', us.length + m, us.length + m, us.length + m, (us ++ us').map x32, (ls ++ ls').map l8, (ds ++ ds').map x32) ∧
      us'.length = m ∧ ls'.length = m ∧ ds'.length = m ∧ climb u us' ∧ (∀ v ∈ ls', -6 ≤ v ∧ v ≤ 10) ∧ (∀ v ∈ ds', 0 ≤ v ∧ v ≤ 8) ∧ 0 ≤ a' ∧ a' ≤ a + 3 * m
  | 0, u, a, s, us, ls, ds, f, hf, _, _, ha, _, _, _, _ => by
    obtain ⟨f, rfl⟩ : ∃ g, f = g + 1 := ⟨f - 1, by omega⟩
    refine ⟨[], [], [], u, a, s, ?_, rfl, rfl, rfl, trivial, by simp, by simp, ha, by omega⟩
    rw [z6y]; unfold z17
    simp only [List.append_nil, Nat.add_zero]
    rfl
  | m + 1, u, a, s, us, ls, ds, f, hf, hu1, hu2, ha, ha2, hl, hd, hn => by
    obtain ⟨f, rfl⟩ : ∃ g, f = g + 1 := ⟨f - 1, by omega⟩
    obtain ⟨r1, a1, s1, p1, q1, w1, v1, b1, c1⟩ := nx_r2 (n := n) (s := s) hx ha (by omega)
    obtain ⟨r2, a2, s2, p2, q2, w2, v2, b2, c2⟩ := nx_r2 (n := n) (a := a1) (s := s1) hx (by omega) (by omega)
    obtain ⟨r3, a3, s3, p3, q3, w3, v3, b3, c3⟩ := nx_r2 (n := n) (a := a2) (s := s2) hx (by omega) (by omega)
    have g1 := pick_in b1 (m := 17) (by omega)
    have g2 := pick_in b2 (m := 9) (by omega)
    have g3 := pick_in b3 (m := 4) (by omega)
    have e1 : subI .i64 (remI r1 17) 6 = remI r1 17 - 6 := wrap64 (by omega) (by omega)
    have e3 : addI .i64 1 (remI r3 4) = 1 + remI r3 4 := wrap64 (by omega) (by omega)
    have en : subI .i64 (Int.ofNat (m + 1)) 1 = Int.ofNat m := by
      have : subI .i64 (Int.ofNat (m + 1)) 1 = (Int.ofNat (m + 1)) - 1 := wrap64 (by simp <;> omega) (by simp <;> omega)
      rw [this]; simp
    have hx1 : fop .add .f32 (x32 u) (fop .quo .f32 (fOI .f32 (1 + remI r3 4)) 1107296256) = x32 (u + (1 + remI r3 4)) := x32_step hu1 (by omega) (by omega) (by omega)
    have k1 : okNz 17 = true := rfl
    have k2 : okNz 9 = true := rfl
    have k3 : okNz 4 = true := rfl
    obtain ⟨us', ls', ds', u', a', s', h, t1, t2, t3, t4, t5, t6, t7, t8⟩ := r8_draw hx m (u + (1 + remI r3 4)) a3 s3 (us ++ [u]) (ls ++ [remI r1 17 - 6]) (ds ++ [remI r2 9]) f (by omega) (by omega) (by omega) (by omega) (by omega) (by simp [hl]) (by simp [hd]) (by simp <;> omega)
    refine ⟨u :: us', (remI r1 17 - 6) :: ls', remI r2 9 :: ds', u', a', s', ?_, by simp [t1], by simp [t2], by simp [t3], ⟨rfl, 1 + remI r3 4, by omega, by omega, t4⟩, ?_, ?_, t7, by omega⟩
    · rw [z6y]; unfold z17
      rw [show ltI 0 (Int.ofNat (m + 1)) = true from ltI_t (by simp <;> omega)]
      simp only [p1, q1, w1, v1, p2, q2, w2, v2, p3, q3, w3, v3, k1, k2, k3, e1, e3, en, hx1, br_true, grd_true]
      rw [okA2_1 _ (b := us.map x32) (by simp) (by omega), okA2_1 _ (b := ls.map l8) (by simp [hl]) (by omega), okA2_1 _ (b := ds.map x32) (by simp [hd]) (by omega)]
      simp only [grd_true]
      simp only [List.append_assoc, List.cons_append, List.nil_append, List.length_append, List.length_cons, List.length_nil] at h
      rw [show us.length + (m + 1) = us.length + (0 + 1) + m by omega]
      rw [← h]
      simp only [List.map_append]
      rfl
    · intro v hv
      rcases List.mem_cons.1 hv with rfl | hv
      · omega
      · exact t5 v hv
    · intro v hv
      rcases List.mem_cons.1 hv with rfl | hv
      · omega
      · exact t6 v hv
theorem R8_draw {xs : List Int} {n : Nat} (hx : byteL xs) : ∃ as ls ds, DrawnP as ls ds ∧ as.length ≤ 9 ∧ z2s n xs = some (as.length, ls.length, ds.length, as, ls, ds) := by
  obtain ⟨r0, a0, s0, p0, q0, w0, v0, b0, c0⟩ := nx_r1 (n := n) (a := 0) (s := 0) hx (by omega) (by omega)
  have g0 := pick_in b0 (m := 4) (by omega)
  by_cases hz : remI r0 4 = 0
  · obtain ⟨r1, a1, s1, p1, q1, w1, v1, b1, c1⟩ := nx_r1 (n := n) (a := a0) (s := s0) hx (by omega) (by omega)
    have h1 := pick_in b1 (m := 8) (by omega)
    have e1 : addI .i64 2 (remI r1 8) = Int.ofNat (2 + remI r1 8).toNat := by
      have : addI .i64 2 (remI r1 8) = 2 + remI r1 8 := wrap64 (by omega) (by omega)
      rw [this]; simp; omega
    obtain ⟨y0, y1, y2, y3, y4, y5, y6⟩ := zl3 (spec_l02Plate_eq (n := (2 + remI r1 8).toNat) (by omega))
    have k4 : okNz 4 = true := rfl
    have k8 : okNz 8 = true := rfl
    refine ⟨_, _, _, .inl ⟨(2 + remI r1 8).toNat, by omega, by omega, rfl, rfl, rfl⟩, by rw [listOf_length]; omega, ?_⟩
    unfold z2s z57
    simp only [p0, q0, w0, v0, hz, p1, q1, w1, v1, e1, y0, y1, y2, y3, y4, y5, y6, k8, k4, grd_true, listOf_length]
    rfl
  · obtain ⟨r1, a1, s1, p1, q1, w1, v1, b1, c1⟩ := nx_r2 (n := n) (a := a0) (s := s0) hx (by omega) (by omega)
    obtain ⟨r2, a2, s2, p2, q2, w2, v2, b2, c2⟩ := nx_r2 (n := n) (a := a1) (s := s1) hx (by omega) (by omega)
    have h1 := pick_in b1 (m := 9) (by omega)
    have h2 := pick_in b2 (m := 5) (by omega)
    have e1 : subI .i64 (remI r1 9) 16 = remI r1 9 - 16 := wrap64 (by omega) (by omega)
    have e2 : addI .i64 2 (remI r2 5) = Int.ofNat (2 + remI r2 5).toNat := by
      have : addI .i64 2 (remI r2 5) = 2 + remI r2 5 := wrap64 (by omega) (by omega)
      rw [this]; simp; omega
    have ex : fop .quo .f32 (fOI .f32 (remI r1 9 - 16)) 1107296256 = x32 (remI r1 9 - 16) := rfl
    obtain ⟨us, vs, ws, u', a3, s3, h, t1, t2, t3, t4, t5, t6, t7, t8⟩ := r8_draw (n := n) hx (2 + remI r2 5).toNat (remI r1 9 - 16) a2 s2 [] [] [] big (big_gt (by omega)) (by omega) (by omega) (by omega) (by omega) rfl rfl (by simp <;> omega)
    obtain ⟨n0, n1, n2, n3⟩ := zgt (show z62 = some ([], [], []) from rfl)
    obtain ⟨z1, _, _, _, z2, z3, z4, z5, z6, z7, z8, z9⟩ := zd8 rfl (show z0h xs n big (x32 (remI r1 9 - 16)) (Int.ofNat (2 + remI r2 5).toNat) a2 s2 0 0 0 [] [] [] = some _ from h)
    simp only [List.length_nil, Nat.zero_add, List.nil_append] at z4 z5 z6 z7 z8 z9
    have k4 : okNz 4 = true := rfl
    have k9 : okNz 9 = true := rfl
    have k5 : okNz 5 = true := rfl
    refine ⟨us.map x32, vs.map l8, ws.map x32, .inr ⟨remI r1 9 - 16, us, vs, ws, by omega, by omega, t4, by omega, by omega, by omega, by omega, t5, t6, rfl, rfl, rfl⟩, by rw [List.length_map, t1]; omega, ?_⟩
    unfold z2s z57
    simp only [p0, q0, w0, v0, p1, q1, w1, v1, p2, q2, w2, v2, e1, e2, ex, n0, n1, n2, n3, z1, z2, z3, z4, z5, z6, z7, z8, z9, k9, k5, k4, grd_true, List.length_map, t1, t2, t3]
    rw [show eqI (remI r0 4) 0 = false from decide_eq_false hz, br_false]
def pA : List (List Nat) := [[3204448256, 1056964608], [3204448256, 0, 1056964608], [3204448256, 3190467242, 1042983596, 1056964608], [3204448256, 3196059648, 0, 1048576000, 1056964608], [3204448256, 3197737370, 3184315596, 1036831952, 1050253722, 1056964608], [3204448256, 3198855850, 3190467242, 0, 1042983596, 1051372202, 1056964608], [3204448256, 3199654766, 3193662902, 3180480804, 1032997160, 1046179256, 1052171118, 1056964608], [3204448256, 3200253952, 3196059648, 3187671040, 0, 1040187392, 1048576000, 1052770304, 1056964608]]
def pL : List (List Nat) := [[0, 0], [0, 0, 0], [0, 3210589145, 1063105493, 0], [0, 2147483648, 0, 2147483648, 0], [0, 1058437402, 3212015729, 1064532081, 3205921050, 0], [0, 1063105493, 3210589145, 0, 1063105493, 3210589141, 0], [0, 1064932577, 3202229767, 3209176604, 1061692959, 1054746108, 3212416225, 0], [0, 1065353215, 2147483648, 3212836863, 0, 1065353215, 2147483648, 3212836863, 0]]
def pD : List (List Nat) := [[0, 0], [0, 0, 0], [0, 1069547520, 1069547521, 0], [0, 1073741824, 0, 1073741824, 0], [0, 1072139741, 1060168771, 1060168776, 1072139741, 0], [0, 1069547521, 1069547520, 0, 1069547521, 1069547521, 0], [0, 1067219856, 1072911090, 1052820977, 1052820986, 1072911092, 1067219856, 0], [0, 1065353215, 1073741824, 1065353215, 0, 1065353215, 1073741824, 1065353215, 0]]
theorem plates_lit (m : Fin 8) : listOf (plateA (m.val + 2)) (m.val + 2) = pA.getD m.val [] ∧ listOf (plateL (m.val + 2)) (m.val + 2) = pL.getD m.val [] ∧ listOf (plateD (m.val + 2)) (m.val + 2) = pD.getD m.val [] := by revert m; decide +kernel
noncomputable def kB (as xs : List Nat) : Bool := (List.range as.length).all fun i => finB (atW as xs (wrapV (as.getD i 0))) && (!fcmp .lss .f32 (as.getD i 0) 1056964608 || !fcmp .neq .f32 (atW as xs (wrapV (as.getD i 0))) (xs.getD i 0))
def liftB (as ls : List Nat) (q : Int) : Bool := finW .f32 (atW as ls (t64 q)) && ((List.range as.length).any (fun a => decide (vl .f32 (ls.getD a 0) ≤ vl .f32 (atW as ls (t64 q)))) && (List.range as.length).any (fun a => decide (vl .f32 (atW as ls (t64 q)) ≤ vl .f32 (ls.getD a 0))))
def dragB (as ds : List Nat) (q : Int) : Bool := finW .f32 (atW as ds (t64 q)) && decide (0 ≤ vl .f32 (atW as ds (t64 q)))
def mirB (as ls : List Nat) (q : Int) (t : Nat) : Bool := finW .f32 (atW (mirA as) (mirA ls) t) && decide ((vl .f32 (atW (mirA as) (mirA ls) t) + vl .f32 (atW as ls (t64 q))).natAbs ≤ 2 ^ 135)
def twoB (x y : Nat) : Bool := finW .f32 x && (finW .f32 y && (nn .f32 y == nn .f32 x && decide (mg .f32 y = 2 * mg .f32 x)))
def goodQ (as ls ds : List Nat) (q : Int) : Bool := liftB as ls q && (dragB as ds q && (mirB as ls q (s64 (mq q)) && (mirB as ls q (t64 (mq q)) && twoB (atW as ls (t64 q)) (atW as (dblL ls) (t64 q)))))
noncomputable def goodB (as ls ds : List Nat) : Bool := validProfB as ls ds && (kB as ls && (kB as ds && (validProfB as (dblL ls) (dblL ds) && (List.range 64).all fun q => goodQ as ls ds ((q : Int) - 32))))
theorem plates_good : (List.range 8).all (fun m => goodB (pA.getD m []) (pL.getD m []) (pD.getD m [])) = true := by decide +kernel
theorem good_of {as ls ds : List Nat} (h : goodB as ls ds = true) : GoodP as ls ds := by
  unfold goodB at h
  simp only [Bool.and_eq_true] at h
  obtain ⟨h1, h2, h3, h4, h5⟩ := h
  have kn : ∀ xs : List Nat, kB as xs = true → ∀ i, i < as.length → finB (atW as xs (wrapV (as.getD i 0))) = true ∧ (fcmp .lss .f32 (as.getD i 0) 1056964608 = true → fcmp .neq .f32 (atW as xs (wrapV (as.getD i 0))) (xs.getD i 0) = false) := by
    intro xs hk i hi
    have := range_all.1 hk i hi
    simp only [Bool.and_eq_true, Bool.or_eq_true, Bool.not_eq_true'] at this
    refine ⟨this.1, fun hl => ?_⟩
    rcases this.2 with h | h
    · rw [hl] at h; cases h
    · exact h
  have hq : ∀ q : Int, -32 ≤ q → q ≤ 31 → goodQ as ls ds q = true := fun q a b => by
    have := range_all.1 h5 (q + 32).toNat (by omega)
    rw [show (((q + 32).toNat : Int)) - 32 = q by omega] at this
    exact this
  refine ⟨h1, kn ls h2, kn ds h3, fun q a b => ?_, fun q a b => ?_, fun q t a b ht => ?_, fun q a b => ?_, h4⟩
  · have := hq q a b
    unfold goodQ liftB at this
    simp only [Bool.and_eq_true, List.any_eq_true, List.mem_range, decide_eq_true_eq] at this
    exact this.1
  · have := hq q a b
    unfold goodQ dragB at this
    simp only [Bool.and_eq_true, decide_eq_true_eq] at this
    exact this.2.1
  · have := hq q a b
    unfold goodQ mirB at this
    simp only [Bool.and_eq_true, decide_eq_true_eq] at this
    rcases ht with rfl | rfl
    · exact this.2.2.1
    · exact this.2.2.2.1
  · have := hq q a b
    unfold goodQ twoB at this
    simp only [Bool.and_eq_true, decide_eq_true_eq, beq_iff_eq] at this
    exact ⟨this.2.2.2.2.1, this.2.2.2.2.2.1, this.2.2.2.2.2.2.1, this.2.2.2.2.2.2.2⟩
theorem drawn_good {as ls ds : List Nat} (h : DrawnP as ls ds) : GoodP as ls ds := by
  rcases h with ⟨m, h1, h2, rfl, rfl, rfl⟩ | ⟨u, us, vs, ws, hu1, hu2, hc, hn1, hn2, hv, hw, hvs, hws, rfl, rfl, rfl⟩
  · have hl := plates_lit ⟨m - 2, by omega⟩
    have hg := range_all.1 plates_good (m - 2) (by omega)
    simp only at hl
    rw [show m - 2 + 2 = m by omega] at hl
    rw [hl.1, hl.2.1, hl.2.2]
    exact good_of hg
  · exact grid_good hu1 hu2 hc hn1 hn2 hv hw hvs hws
theorem negB_eq {xs : List Nat} {n : Nat} (h : xs.length = n) : negB xs n = mirA xs := by
  subst h
  unfold negB mirA
  apply List.ext_getElem
  · simp
  · intro i h1 h2
    simp only [List.length_map, List.length_range] at h1
    simp [List.getD_eq_getElem?_getD, List.getElem?_eq_getElem (show xs.length - 1 - i < xs.length by omega)]
theorem revB_eq {xs : List Nat} {n : Nat} (h : xs.length = n) : revB xs n = xs.reverse := by
  subst h
  unfold revB
  apply List.ext_getElem
  · simp
  · intro i h1 h2
    simp only [List.length_map, List.length_range] at h1
    simp [List.getD_eq_getElem?_getD, List.getElem?_eq_getElem (show xs.length - 1 - i < xs.length by omega)]
theorem impl_MirrorProfile_eq {as ls ds : List Nat} (hv : validProfB as ls ds = true) : z1y as.length as ls.length ls ds.length ds = some (as.length, as.length, as.length, true, mirA as, mirA ls, ds.reverse) := by
  obtain ⟨c1, c2, c3, c4⟩ := validProfB_len hv
  obtain ⟨p1, q1⟩ := z38 (impl_ValidProfile_eq (as := as) (ls := ls) (ds := ds) (by omega) (by omega))
  have ho : okMir as.length ls.length ds.length = true := by
    unfold okMir
    rw [decide_eq_true (show 0 < as.length by omega), decide_eq_true c2, decide_eq_true (show as.length ≤ ls.length by omega), decide_eq_true (show as.length ≤ ds.length by omega)]; rfl
  unfold z1y
  simp only [pF_all, p1, q1, hv, ho, grd_true]
  rw [negB_eq rfl, negB_eq c3, revB_eq c4]
  rfl
theorem impl_cut_loop {as ls ds : List Nat} (hv : validProfB as ls ds = true) :
    z1l 3204448256 1056964608 as.length (Int.ofNat as.length) as ls ds ls.length ds.length big 0 0 0 0 [] [] [] = some (Int.ofNat as.length, false, as.length, as.length, as.length, as, ls, ds) := by
  obtain ⟨c1, c2, c3, c4⟩ := validProfB_len hv
  have hk := prof_knots hv
  have := runs (L := fun m i => z1l 3204448256 1056964608 as.length (Int.ofNat as.length) as ls ds ls.length ds.length m i i.toNat i.toNat i.toNat (as.take i.toNat) (ls.take i.toNat) (ds.take i.toNat)) (len := as.length) (e := (Int.ofNat as.length, false, as.length, as.length, as.length, as, ls, ds))
    (fun m i hi => by
      show z1l _ _ _ _ _ _ _ _ _ _ _ i i i (as.take i) (ls.take i) (ds.take i) = z1l _ _ _ _ _ _ _ _ _ _ _ (i + 1) (i + 1) (i + 1) (as.take (i + 1)) (ls.take (i + 1)) (ds.take (i + 1))
      obtain ⟨p1, q1⟩ := zfa (impl_isFromTo_eq (as.getD i 0) 3204448256 1056964608)
      have hf : fromToB (as.getD i 0) 3204448256 1056964608 = true := by have := hk i hi; unfold knotB at this; rw [Bool.and_eq_true] at this; exact this.1
      rw [zen]; unfold z55
      rw [ltN_t hi, okIx_t hi, okIx_t (show i < ls.length by omega), okIx_t (show i < ds.length by omega), ix1, addI1 (by omega)]
      rw [okA2_1 _ (b := as.take i) (by rw [List.length_take]; omega) (by omega), okA2_1 _ (b := ls.take i) (by rw [List.length_take]; omega) (by omega), okA2_1 _ (b := ds.take i) (by rw [List.length_take]; omega) (by omega)]
      rw [← take_succ_getD (ys := as) (by omega), ← take_succ_getD (ys := ls) (by omega), ← take_succ_getD (ys := ds) (by omega)]
      simp only [br_true, grd_true, gF, p1, q1, hf]
      rfl)
    (fun m => by
      show z1l _ _ _ _ _ _ _ _ _ _ _ as.length as.length as.length (as.take as.length) (ls.take as.length) (ds.take as.length) = _
      rw [zen]; unfold z55
      rw [ltN_f (Nat.le_refl _), br_false, List.take_of_length_le (by omega), List.take_of_length_le (by omega), List.take_of_length_le (by omega)]) (by omega)
  simpa using this
theorem fmx_vl {k : FloatKind} {x y : Nat} (hx : finW k x = true) (hy : finW k y = true) :
    (finW k (fmx false k x y) = true ∧ vl k (fmx false k x y) ≤ vl k x ∧ vl k (fmx false k x y) ≤ vl k y) ∧ (finW k (fmx true k x y) = true ∧ vl k x ≤ vl k (fmx true k x y) ∧ vl k y ≤ vl k (fmx true k x y)) ∧ (fmx true k x y = x ∨ fmx true k x y = y) := by
  have h := cmp_vl k x y
  unfold fmx
  rw [order_words k (finW_nan hx) (finW_nan hy), ← h, cmp_int]
  rcases Int.lt_trichotomy (vl k x) (vl k y) with g | g | g
  · rw [if_pos g]
    exact ⟨⟨hx, Int.le_refl _, by simp; omega⟩, ⟨hy, by simp; omega, by simp⟩, .inr rfl⟩
  · rw [if_neg (by omega), if_pos g]
    simp only
    cases (k.decode x).neg
    · exact ⟨⟨hy, by simp; omega, by simp⟩, ⟨hx, by simp, by simp; omega⟩, .inl rfl⟩
    · exact ⟨⟨hx, by simp, by simp; omega⟩, ⟨hy, by simp; omega, by simp⟩, .inr rfl⟩
  · rw [if_neg (by omega), if_neg (by omega)]
    exact ⟨⟨hy, by simp; omega, by simp⟩, ⟨hx, by simp, by simp; omega⟩, .inl rfl⟩
theorem pI_all (xs : List Int) : pI xs 0 (muN xs.length 1) = xs := by simp [pI, muN]
theorem byte_of {xs : List Int} (k : ∀ x ∈ xs, bdI .u8 x) : byteL xs := fun x hx => by
  have := k x hx
  have h1 : IntKind.u8.min = 0 := rfl
  have h2 : IntKind.u8.max = 255 := rfl
  unfold bdI at this
  rw [h1, h2] at this
  exact this
theorem up_ok {x hi e : Nat} (hx : finW .f64 x = true) (hl : finW .f64 hi = true) (he : finW .f64 e = true) (h0 : 0 ≤ vl .f64 e) (h : vl .f64 x ≤ vl .f64 hi) : fcmp .gtr .f64 x (fop .add .f64 hi e) = false := by
  have hn : nanB .f64 (fop .add .f64 hi e) = false := by rw [add_word hl he]; exact nanB_word _ _ (rnd_inf _ _ _)
  rw [(fcmp_num .f64 (finW_nan hx) hn).2.2.2.2.1]
  have h1 : srung FloatKind.f64.format hi ≤ srung FloatKind.f64.format (fop .add .f64 hi e) := sum_ge hl he hl (by omega)
  have h2 := vl_le.1 h
  exact decide_eq_false (by omega)
theorem eps_ok : finW .f64 4562254508917369340 = true ∧ 0 ≤ vl .f64 4562254508917369340 := by decide +kernel
theorem gap_max {a b : Nat} (ha : finW .f64 a = true) (hb : finW .f64 b = true) (h : (vl .f64 a - vl .f64 b).natAbs ≤ 2 ^ 1060) :
    ∃ v, zbs a b = some v ∧ fcmp .gtr .f64 v 4562254508917369340 = false := by
  obtain ⟨f1, g1⟩ := gap64 ha hb h
  obtain ⟨f2, g2⟩ := gap64 hb ha (by omega)
  refine ⟨_, rfl, ?_⟩
  rcases (fmx_vl f1 f2).2.2 with e | e
  · rw [e]; exact g1
  · rw [e]; exact g2
theorem r8At_ok {ys : List Int} {m : Nat} (hy : byteL ys) {i n : Int} (hi : 0 ≤ i) (hi2 : i ≤ 1000) (hn : 2 ≤ n) : ∃ v, zcq m ys i n = true ∧ za4 m ys i n = v ∧ 0 ≤ v ∧ v < n := by
  have key : ∃ v, zba m ys i n = some v ∧ 0 ≤ v ∧ v < n := by
    unfold zba zbb
    rw [show leI n 1 = false from decide_eq_false (by omega), br_false]
    cases hlt : leI (Int.ofNat m) i
    · have hlt' := of_decide_eq_false hlt
      rw [br_false, show okIx i m = true from decide_eq_true ⟨hi, by simp at hlt'; omega⟩, show okNz n = true by simp; omega]
      have hb := i64_byte (byteL_get hy (ixO 0 i 1))
      exact ⟨_, rfl, pick_in hb (by omega)⟩
    · exact ⟨0, rfl, by omega, by omega⟩
  obtain ⟨v, h1, h2, h3⟩ := key
  obtain ⟨p, q⟩ := zmm h1
  exact ⟨v, p, q, h2, h3⟩
theorem stall_loop {ls : List Nat} {n : Nat} (hl : ls.length = n) (h24 : n ≤ 24) (hf : ∀ j, j < n → finW .f32 (ls.getD j 0) = true) : ∀ d i b m, i + d = n → d < m → b < n → (∀ j, j < i → vl .f32 (ls.getD j 0) ≤ vl .f32 (ls.getD b 0)) →
    ∃ c, z2e n (Int.ofNat n) ls n m (Int.ofNat b) (Int.ofNat i) = some (Int.ofNat c, Int.ofNat n, false) ∧ c < n ∧ ∀ j, j < n → vl .f32 (ls.getD j 0) ≤ vl .f32 (ls.getD c 0)
  | 0, i, b, m, h1, h2, h3, h4 => by
    obtain ⟨m, rfl⟩ : ∃ k, m = k + 1 := ⟨m - 1, by omega⟩
    obtain rfl : i = n := by omega
    refine ⟨b, ?_, h3, h4⟩
    rw [zcn]; unfold z3q; rw [ltN_f (Nat.le_refl _)]; rfl
  | d + 1, i, b, m, h1, h2, h3, h4 => by
    obtain ⟨m, rfl⟩ : ∃ k, m = k + 1 := ⟨m - 1, by omega⟩
    have hi : i < n := by omega
    have hg := (fcmp_vl (hf i hi) (hf b h3)).2.2.2.2.1
    rw [zcn]; unfold z3q
    rw [ltN_t hi, okIx_t hi, okIx_t h3, ix1, ix1, addI1 (by omega)]
    simp only [br_true, grd_true, gF]
    by_cases hlt : vl .f32 (ls.getD b 0) < vl .f32 (ls.getD i 0)
    · rw [hg, decide_eq_true hlt, br_true]
      exact stall_loop hl h24 hf d (i + 1) i m (by omega) (by omega) hi fun j hj => by
        by_cases e : j = i
        · subst e; exact Int.le_refl _
        · have := h4 j (by omega); omega
    · rw [hg, decide_eq_false hlt, br_false]
      exact stall_loop hl h24 hf d (i + 1) b m (by omega) (by omega) h3 fun j hj => by
        by_cases e : j = i
        · subst e; omega
        · exact h4 j (by omega)
theorem StallOf_ex {as ls ds : List Nat} (hv : validProfB as ls ds = true) : ∃ c, c < as.length ∧ (∀ j, j < as.length → vl .f32 (ls.getD j 0) ≤ vl .f32 (ls.getD c 0)) ∧ z5l as.length as ls.length ls ds.length ds = some (Int.ofNat c, as.getD c 0, true) := by
  obtain ⟨c1, c2, c3, c4⟩ := validProfB_len hv
  obtain ⟨p1, q1⟩ := z38 (impl_ValidProfile_eq (as := as) (ls := ls) (ds := ds) (by omega) (by omega))
  obtain ⟨c, h1, h2, h3⟩ := stall_loop (ls := ls) (n := ls.length) rfl (by omega) (fun j hj => by rw [← finB_eq]; exact (prof_num hv (by omega)).2.1) ls.length 0 0 big (by omega) (big_gt (by omega)) (by omega) (fun j hj => by omega)
  obtain ⟨g1, g2, _⟩ := zig rfl (show z2e ls.length (Int.ofNat ls.length) ls ls.length big 0 0 = some _ from h1)
  refine ⟨c, by omega, fun j hj => h3 j (by omega), ?_⟩
  unfold z5l z7k
  simp only [pF_all, p1, q1, hv, g1, g2, okIx_t (show c < as.length by omega), ix1, gF, grd_true, bnot_true, br_false]
theorem l12_loop {ls : List Nat} {n c : Nat} (h24 : n ≤ 24) (hc : c < n) (hf : ∀ j, j < n → finW .f32 (ls.getD j 0) = true) (h : ∀ j, j < n → vl .f32 (ls.getD j 0) ≤ vl .f32 (ls.getD c 0)) :
    z1f (Int.ofNat n) (Int.ofNat c) n ls big 0 = some (.inr (Int.ofNat n, false)) := by
  refine runs (L := fun m i => z1f (Int.ofNat n) (Int.ofNat c) n ls m i) (len := n) (fun m i hi => ?_) (fun m => ?_) (by omega)
  · show z1f _ _ _ _ (m + 1) (Int.ofNat i) = _
    rw [zc9]; unfold z3i
    rw [ltN_t hi, okIx_t hi, okIx_t hc, ix1, ix1, addI1 (by omega)]
    simp only [br_true, grd_true, gF]
    rw [(fcmp_vl (hf i hi) (hf c hc)).2.2.2.2.1, decide_eq_false (by have := h i hi; omega), br_false]
  · show z1f _ _ _ _ (m + 1) (Int.ofNat n) = _
    rw [zc9]; unfold z3i
    rw [ltN_f (Nat.le_refl _)]; rfl
def gliQ (ls ds : List Nat) (j : Nat) : Nat := fop .quo .f32 (ls.getD j 0) (ds.getD j 0)
theorem eql_nan (x : Nat) : fcmp .eql .f32 x x = !nanB .f32 x := by
  cases h : nanB .f32 x with
  | true => rw [(fcmp_nan .f32 (.inl h)).1]; rfl
  | false => rw [(fcmp_num .f32 h h).1]; simp
theorem gtr_nan {x y : Nat} (h : nanB .f32 x = true) : fcmp .gtr .f32 x y = false := (fcmp_nan .f32 (.inl h)).2.2.2.2.1
def gliI (ls ds : List Nat) (i : Nat) (best : Int) (most : Nat) : Prop :=
  (best = Int.negSucc 0 ∧ ∀ j, j < i → nanB .f32 (gliQ ls ds j) = true) ∨ ∃ b : Nat, best = Int.ofNat b ∧ b < i ∧ most = gliQ ls ds b ∧ nanB .f32 most = false ∧ ∀ j, j < i → fcmp .gtr .f32 (gliQ ls ds j) most = false
theorem glide_loop {ls ds : List Nat} {n : Nat} (h24 : n ≤ 24) : ∀ d i best most m, i + d = n → d < m → gliI ls ds i best most →
    ∃ best' most', z0w n (Int.ofNat n) ls ds n m best most (Int.ofNat i) = some (best', most', Int.ofNat n, false) ∧ gliI ls ds n best' most'
  | 0, i, best, most, m, h1, h2, h3 => by
    obtain ⟨m, rfl⟩ : ∃ k, m = k + 1 := ⟨m - 1, by omega⟩
    obtain rfl : i = n := by omega
    refine ⟨best, most, ?_, h3⟩
    rw [zbx]; unfold z36; rw [ltN_f (Nat.le_refl _)]; rfl
  | d + 1, i, best, most, m, h1, h2, h3 => by
    obtain ⟨m, rfl⟩ : ∃ k, m = k + 1 := ⟨m - 1, by omega⟩
    have hi : i < n := by omega
    rw [zbx]; unfold z36
    rw [ltN_t hi, okIx_t hi, ix1, addI1 (by omega)]
    simp only [br_true, grd_true, gF]
    show ∃ best' most', br (fcmp .eql .f32 (gliQ ls ds i) (gliQ ls ds i)) (br (ltI best 0) _ (br (fcmp .gtr .f32 (gliQ ls ds i) most) _ _)) _ = _ ∧ _
    rw [eql_nan]
    cases hq : nanB .f32 (gliQ ls ds i) with
    | true =>
      refine glide_loop h24 d (i + 1) best most m (by omega) (by omega) ?_
      rcases h3 with ⟨e, h⟩ | ⟨b, e, hb, hm, hn, h⟩
      · exact .inl ⟨e, fun j hj => by
          by_cases e : j = i
          · rw [e]; exact hq
          · exact h j (by omega)⟩
      · exact .inr ⟨b, e, by omega, hm, hn, fun j hj => by
          by_cases e : j = i
          · rw [e]; exact gtr_nan hq
          · exact h j (by omega)⟩
    | false =>
      show ∃ best' most', br (ltI best 0) (z0w n (Int.ofNat n) ls ds n m (Int.ofNat i) (gliQ ls ds i) (Int.ofNat (i + 1))) (br (fcmp .gtr .f32 (gliQ ls ds i) most) (z0w n (Int.ofNat n) ls ds n m (Int.ofNat i) (gliQ ls ds i) (Int.ofNat (i + 1))) (z0w n (Int.ofNat n) ls ds n m best most (Int.ofNat (i + 1)))) = _ ∧ _
      have self : fcmp .gtr .f32 (gliQ ls ds i) (gliQ ls ds i) = false := by rw [(fcmp_num .f32 hq hq).2.2.2.2.1]; simp
      rcases h3 with ⟨e, h⟩ | ⟨b, e, hb, hm, hn, h⟩
      · rw [e, show ltI (Int.negSucc 0) 0 = true from rfl, br_true]
        exact glide_loop h24 d (i + 1) _ _ m (by omega) (by omega) (.inr ⟨i, rfl, by omega, rfl, hq, fun j hj => by
          by_cases e : j = i
          · rw [e]; exact self
          · exact gtr_nan (h j (by omega))⟩)
      · rw [e, show ltI (Int.ofNat b) 0 = false from ltI_f (by simp), br_false]
        have hg := (fcmp_num .f32 hq hn).2.2.2.2.1
        by_cases hlt : srung FloatKind.f32.format most < srung FloatKind.f32.format (gliQ ls ds i)
        · rw [hg, decide_eq_true hlt, br_true]
          exact glide_loop h24 d (i + 1) _ _ m (by omega) (by omega) (.inr ⟨i, rfl, by omega, rfl, hq, fun j hj => by
            by_cases e : j = i
            · rw [e]; exact self
            · have := h j (by omega)
              cases hj' : nanB .f32 (gliQ ls ds j) with
              | true => exact gtr_nan hj'
              | false =>
                rw [(fcmp_num .f32 hj' hn).2.2.2.2.1] at this
                have := of_decide_eq_false this
                rw [(fcmp_num .f32 hj' hq).2.2.2.2.1]
                exact decide_eq_false (by omega)⟩)
        · rw [hg, decide_eq_false hlt, br_false]
          exact glide_loop h24 d (i + 1) _ _ m (by omega) (by omega) (.inr ⟨b, rfl, by omega, hm, hn, fun j hj => by
            by_cases e : j = i
            · rw [e, hg]; exact decide_eq_false hlt
            · exact h j (by omega)⟩)
theorem BestGlide_ex {as ls ds : List Nat} (hv : validProfB as ls ds = true) : ∃ best glide ok, z4f as.length as ls.length ls ds.length ds = some (best, glide, ok) ∧
    (ok = true → ∃ b : Nat, best = Int.ofNat b ∧ b < as.length ∧ fcmp .neq .f32 (gliQ ls ds b) glide = false ∧ ∀ j, j < as.length → fcmp .gtr .f32 (gliQ ls ds j) glide = false) := by
  obtain ⟨c1, c2, c3, c4⟩ := validProfB_len hv
  obtain ⟨p1, q1⟩ := z38 (impl_ValidProfile_eq (as := as) (ls := ls) (ds := ds) (by omega) (by omega))
  obtain ⟨best, most, h1, h2⟩ := glide_loop (ls := ls) (ds := ds) (n := as.length) c2 as.length 0 (Int.negSucc 0) 0 big (by omega) (big_gt (by omega)) (.inl ⟨rfl, fun j hj => by omega⟩)
  obtain ⟨g1, g2, g3, _⟩ := zgv rfl (show z0w as.length (Int.ofNat as.length) ls ds as.length big (Int.negSucc 0) 0 0 = some _ from h1)
  obtain ⟨p2, q2⟩ := z4g (impl_IsFinite_eq most)
  unfold z4f z6a
  rw [c3, c4] at p1 q1 ⊢
  have pl : pF ls 0 (muN as.length 1) = ls := by rw [← c3]; exact pF_all _
  have pd : pF ds 0 (muN as.length 1) = ds := by rw [← c4]; exact pF_all _
  simp only [pF_all, pl, pd, p1, q1, hv, g1, g2, g3, p2, q2, grd_true, bnot_true, br_false]
  rcases h2 with ⟨e, h⟩ | ⟨b, e, hb, hm, hn, h⟩
  · rw [e]
    exact ⟨0, 0, false, rfl, fun h => by cases h⟩
  · rw [e, show ltI (Int.ofNat b) 0 = false from ltI_f (by simp)]
    simp only [br_false]
    cases finB most with
    | false => exact ⟨0, 0, false, rfl, fun h => by cases h⟩
    | true => exact ⟨Int.ofNat b, most, true, rfl, fun _ => ⟨b, rfl, hb, by rw [← hm, neq_self, hn], h⟩⟩
theorem l21_loop {ls ds : List Nat} {n g : Nat} (h24 : n ≤ 24) (h : ∀ j, j < n → fcmp .gtr .f32 (gliQ ls ds j) g = false) : z1g (Int.ofNat n) g n n ls ds big 0 = some (.inr (Int.ofNat n, false)) := by
  refine runs (L := fun m i => z1g (Int.ofNat n) g n n ls ds m i) (len := n) (fun m i hi => ?_) (fun m => ?_) (by omega)
  · show z1g _ _ _ _ _ _ (m + 1) (Int.ofNat i) = _
    have := h i hi
    unfold gliQ at this
    rw [zc7]; unfold z3h
    rw [ltN_t hi, okIx_t hi, ix1, addI1 (by omega)]
    simp only [br_true, grd_true, gF, this, br_false]
  · show z1g _ _ _ _ _ _ (m + 1) (Int.ofNat n) = _
    rw [zc7]; unfold z3h
    rw [ltN_f (Nat.le_refl _)]; rfl
def stp (b : Bool) (x : Nat) : Bool := if fcmp .gtr .f32 x 1048576000 = true then true else b && !fcmp .lss .f32 x 1040187392
theorem StepApart_eq (b : Bool) {x : Nat} (hx : finB x = true) : z5c b x 1048576000 1040187392 = some (stp b x, true) := by
  obtain ⟨p1, q1⟩ := z9k (impl_areFinite_eq (xs := [x, 1048576000, 1040187392]) (by simp))
  have e : ([x, 1048576000, 1040187392] : List Nat).all finB = true := by
    simp only [List.all_cons, List.all_nil, hx, show finB 1048576000 = true by decide +kernel, show finB 1040187392 = true by decide +kernel]; rfl
  rw [e] at q1
  unfold z5c z69 stp
  rw [show pF [x, 1048576000, 1040187392] 0 (muN 3 1) = [x, 1048576000, 1040187392] from rfl]
  rw [show ([x, 1048576000, 1040187392] : List Nat).length = 3 from rfl] at p1 q1
  simp only [p1, q1, grd_true, bnot_true, br_false, show fcmp .gtr .f32 1040187392 1048576000 = false by decide +kernel]
  cases fcmp .gtr .f32 x 1048576000 <;> cases b <;> cases fcmp .lss .f32 x 1040187392 <;> rfl
def seqB (xs : List Nat) : Nat → Bool
  | 0 => false
  | i + 1 => stp (seqB xs i) (xs.getD i 0)
def listB (xs : List Nat) (i : Nat) : List Bool := (List.range i).map fun j => seqB xs (j + 1)
theorem listB_succ (xs : List Nat) (i : Nat) : listB xs i ++ [seqB xs (i + 1)] = listB xs (i + 1) := by simp [listB, List.range_succ]
theorem run_loop {xs : List Nat} {n : Nat} (h24 : n ≤ 24) (hf : ∀ j, j < n → finB (xs.getD j 0) = true) : ∀ d i m, i + d = n → d < m →
    z15 1048576000 1040187392 n (Int.ofNat n) xs m i (seqB xs i) (Int.ofNat i) (listB xs i) = some (.inr (n, seqB xs n, Int.ofNat n, false, listB xs n))
  | 0, i, m, h1, h2 => by
    obtain ⟨m, rfl⟩ : ∃ k, m = k + 1 := ⟨m - 1, by omega⟩
    obtain rfl : i = n := by omega
    rw [zcd]; unfold z3e; rw [ltN_f (Nat.le_refl _)]; rfl
  | d + 1, i, m, h1, h2 => by
    obtain ⟨m, rfl⟩ : ∃ k, m = k + 1 := ⟨m - 1, by omega⟩
    have hi : i < n := by omega
    obtain ⟨p1, q1, r1⟩ := zf0 (StepApart_eq (seqB xs i) (hf i hi))
    have ho : okA2 i 1 1 (nB (pB [stp (seqB xs i) (xs.getD i 0)] 0 (muN 1 1))) (nB (listB xs i)) 1 = true := decide_eq_true ⟨by omega, by omega, rfl, by simp [listB]⟩
    rw [zcd]; unfold z3e
    rw [ltN_t hi, okIx_t hi, ix1, addI1 (by omega)]
    simp only [br_true, grd_true, gF, p1, q1, r1, bnot_true, br_false, ho]
    have := run_loop h24 hf d (i + 1) m (by omega) (by omega)
    rw [← listB_succ] at this
    exact this
theorem RunApart_eq {xs : List Nat} {n : Nat} (hn : xs.length = n) (h24 : n ≤ 24) (hf : ∀ j, j < n → finB (xs.getD j 0) = true) : z4r n xs 1048576000 1040187392 = some (n, true, listB xs n) := by
  obtain ⟨p1, q1⟩ := z9k (impl_areFinite_eq (xs := [1048576000, 1040187392]) (by simp))
  have e : ([1048576000, 1040187392] : List Nat).all finB = true := by decide +kernel
  rw [e] at q1
  rw [show ([1048576000, 1040187392] : List Nat).length = 2 from rfl] at p1 q1
  obtain ⟨g1, g2, g3, _, _, _, g7⟩ := zho rfl (show z15 1048576000 1040187392 n (Int.ofNat n) xs big 0 false 0 [] = some _ from run_loop (xs := xs) h24 hf n 0 big (by omega) (big_gt (by omega)))
  unfold z4r z6v
  rw [show pF [1048576000, 1040187392] 0 (muN 2 1) = [1048576000, 1040187392] from rfl, show ltI 256 (Int.ofNat n) = false from decide_eq_false (by simp; omega)]
  simp only [p1, q1, g1, g2, g3, g7, grd_true, bnot_true, br_false, show fcmp .gtr .f32 1040187392 1048576000 = false by decide +kernel]
theorem l47_loop {xs : List Nat} (hf : ∀ j, j < 6 → finB (xs.getD j 0) = true) : ∀ d i m, i + d = 6 → d < m → z1p 6 6 xs (listB xs 6) m (seqB xs i) (Int.ofNat i) = some (.inr (seqB xs 6, 6, false))
  | 0, i, m, h1, h2 => by
    obtain ⟨m, rfl⟩ : ∃ k, m = k + 1 := ⟨m - 1, by omega⟩
    obtain rfl : i = 6 := by omega
    rw [zcc]; unfold z3a; rfl
  | d + 1, i, m, h1, h2 => by
    obtain ⟨m, rfl⟩ : ∃ k, m = k + 1 := ⟨m - 1, by omega⟩
    have hi : i < 6 := by omega
    obtain ⟨p1, q1, r1⟩ := zf0 (StepApart_eq (seqB xs i) (hf i hi))
    have eg : (listB xs 6).getD i false = stp (seqB xs i) (xs.getD i 0) := by
      simp [listB, List.getD_eq_getElem?_getD, hi, seqB]
    have ih := l47_loop hf d (i + 1) m (by omega) (by omega)
    have e2 : stp (seqB xs i) (xs.getD i 0) = seqB xs (i + 1) := rfl
    have h6 : ltI (Int.ofNat i) 6 = true := decide_eq_true (by simp; omega)
    have hs : fcmp .gtr .f32 (xs.getD i 0) 1048576000 = true → seqB xs (i + 1) = true := fun h => by rw [← e2]; unfold stp; rw [if_pos h]
    have hs2 : fcmp .lss .f32 (xs.getD i 0) 1040187392 = true → fcmp .gtr .f32 (xs.getD i 0) 1048576000 = false → seqB xs (i + 1) = false := fun h h' => by rw [← e2]; unfold stp; rw [h', h]; simp
    have hs3 : fcmp .lss .f32 (xs.getD i 0) 1040187392 = true → fcmp .gtr .f32 (xs.getD i 0) 1048576000 = false := fun h => by
      have hx := hf i hi
      rw [finB_eq] at hx
      have c1 : finW .f32 1040187392 = true ∧ finW .f32 1048576000 = true ∧ vl .f32 1040187392 < vl .f32 1048576000 := by decide +kernel
      rw [(fcmp_vl hx c1.1).2.2.1] at h
      have := of_decide_eq_true h
      rw [(fcmp_vl hx c1.2.1).2.2.2.2.1]
      exact decide_eq_false (by omega)
    rw [zcc]; unfold z3a
    rw [h6, okIx_t hi, ix1, addI1 (by omega)]
    simp only [br_true, grd_true, gF, gB, p1, q1, r1, bnot_true, br_false, eg, e2, beqB_self]
    cases h1 : fcmp .gtr .f32 (xs.getD i 0) 1048576000
    · cases h2 : fcmp .lss .f32 (xs.getD i 0) 1040187392
      · exact ih
      · rw [hs2 h2 h1] at ih ⊢; exact ih
    · cases h2 : fcmp .lss .f32 (xs.getD i 0) 1040187392
      · rw [hs h1] at ih ⊢; exact ih
      · rw [hs3 h2] at h1; cases h1
theorem l39_loop {ys : List Int} (hy : byteL ys) : ∀ d i m (xs : List Nat), i + d = 6 → d < m → xs.length = i → (∀ j, j < i → ∃ v : Int, 0 ≤ v ∧ v ≤ 32 ∧ xs.getD j 0 = t64 v) →
    ∃ zs : List Nat, z1q ys.length ys m i (Int.ofNat i) xs = some (6, 6, false, zs) ∧ zs.length = 6 ∧ ∀ j, j < 6 → ∃ v : Int, 0 ≤ v ∧ v ≤ 32 ∧ zs.getD j 0 = t64 v
  | 0, i, m, xs, h1, h2, h3, h4 => by
    obtain ⟨m, rfl⟩ : ∃ k, m = k + 1 := ⟨m - 1, by omega⟩
    obtain rfl : i = 6 := by omega
    refine ⟨xs, ?_, h3, h4⟩
    rw [zce]; unfold z3b; rfl
  | d + 1, i, m, xs, h1, h2, h3, h4 => by
    obtain ⟨m, rfl⟩ : ∃ k, m = k + 1 := ⟨m - 1, by omega⟩
    have hi : i < 6 := by omega
    obtain ⟨v, pv, qv, v0, v1⟩ := r8At_ok (m := ys.length) hy (i := Int.ofNat i) (n := 33) (by simp) (by simp; omega) (by omega)
    have h6 : ltI (Int.ofNat i) 6 = true := decide_eq_true (by simp; omega)
    obtain ⟨zs, e, hz⟩ := l39_loop hy d (i + 1) m (xs ++ [t64 v]) (by omega) (by omega) (by simp [h3]) (fun j hj => by
      by_cases e : j = i
      · refine ⟨v, v0, by omega, ?_⟩
        rw [e, ← h3]
        simp [List.getD_eq_getElem?_getD]
      · obtain ⟨u, u1, u2, u3⟩ := h4 j (by omega)
        refine ⟨u, u1, u2, ?_⟩
        rw [← u3]
        simp [List.getD_eq_getElem?_getD, List.getElem?_append_left (show j < xs.length by omega)])
    refine ⟨zs, ?_, hz⟩
    rw [zce]; unfold z3b
    rw [h6, pI_all, pv, qv, addI1 (by omega)]
    have hq : fop .quo .f32 (fOI .f32 v) 1115684864 = t64 v := rfl
    rw [hq, okA2_1 _ (b := xs) h3 (by omega)]
    exact e
def Gi (k : FloatKind) (N s x : Nat) (v : Int) : Prop := finW k x = true ∧ vl k x = v * ((2 ^ (N - s) : Nat) : Int)
theorem vl_sgn {k : FloatKind} (s t : Bool) {V : Int} {r : Nat} (hr : r < k.format.infRung) (h : rungV k.format r = V.natAbs) : finW k (k.format.word (sgn0 s t V) r) = true ∧ vl k (k.format.word (sgn0 s t V) r) = V := by
  refine ⟨?_, ?_⟩
  · unfold finW; rw [rg_word _ _ (Nat.le_of_lt hr)]; exact decide_eq_true hr
  · unfold vl
    rw [nn_word _ _ (Nat.le_of_lt hr), mg_word _ _ (Nat.le_of_lt hr), h]
    unfold sgn0 sg
    by_cases h0 : V = 0
    · subst h0; simp
    · rw [if_neg h0]
      by_cases hn : V < 0
      · rw [decide_eq_true hn, if_pos rfl]; omega
      · rw [decide_eq_false hn, if_neg (by decide)]; omega
theorem unit_rung (k : FloatKind) {N s : Nat} {v : Int} (hv : v.natAbs ≤ k.format.binade) (hs : (N - s + 2) * k.format.binade ≤ k.format.infRung) : ∃ r, r < k.format.infRung ∧ rungV k.format r = (v * ((2 ^ (N - s) : Nat) : Int)).natAbs := by
  obtain ⟨r, h1, h2⟩ := grid_rung k.format hv hs
  exact ⟨r, h1, by rw [h2, Int.natAbs_mul, Int.natAbs_natCast]⟩
theorem add_ex {k : FloatKind} {N s x y : Nat} {u v : Int} (hs : (N - s + 2) * k.format.binade ≤ k.format.infRung) (hx : Gi k N s x u) (hy : Gi k N s y v) (hb : (u + v).natAbs ≤ k.format.binade) : Gi k N s (fop .add k x y) (u + v) := by
  obtain ⟨r, h1, h2⟩ := unit_rung k hb hs
  have e : vl k x + vl k y = (u + v) * ((2 ^ (N - s) : Nat) : Int) := by rw [hx.2, hy.2, Int.add_mul]
  unfold Gi
  rw [add_word hx.1 hy.1, e]
  have hr : rnd k.format ((u + v) * ((2 ^ (N - s) : Nat) : Int)).natAbs (lp k) = r := rnd_exact k.format (u := 0) (v := 0) (Nat.le_of_lt h1) rfl (by rw [h2])
  rw [hr]
  exact vl_sgn _ _ h1 h2
theorem sub_ex {k : FloatKind} {N s x y : Nat} {u v : Int} (hs : (N - s + 2) * k.format.binade ≤ k.format.infRung) (hx : Gi k N s x u) (hy : Gi k N s y v) (hb : (u - v).natAbs ≤ k.format.binade) : Gi k N s (fop .sub k x y) (u - v) := by
  obtain ⟨r, h1, h2⟩ := unit_rung k hb hs
  have e : vl k x - vl k y = (u - v) * ((2 ^ (N - s) : Nat) : Int) := by rw [hx.2, hy.2, Int.sub_mul]
  unfold Gi
  rw [sub_word hx.1 hy.1, e]
  have hr : rnd k.format ((u - v) * ((2 ^ (N - s) : Nat) : Int)).natAbs (lp k) = r := rnd_exact k.format (u := 0) (v := 0) (Nat.le_of_lt h1) rfl (by rw [h2])
  rw [hr]
  exact vl_sgn _ _ h1 h2
theorem sg_nat (s : Bool) (m : Nat) : (sg s m).natAbs = m := by unfold sg; split <;> simp
theorem mul_ex {k : FloatKind} {N s t x y : Nat} {u v : Int} (hN : lp k + (N : Int) = 0) (hst : s + t ≤ N) (hs : (N - (s + t) + 2) * k.format.binade ≤ k.format.infRung) (hx : Gi k N s x u) (hy : Gi k N t y v) (hb : (u * v).natAbs ≤ k.format.binade) : Gi k N (s + t) (fop .mul k x y) (u * v) := by
  obtain ⟨r, h1, h2⟩ := unit_rung k hb hs
  have ep : ((2 ^ (N - s) : Nat) : Int) * ((2 ^ (N - t) : Nat) : Int) = ((2 ^ (N - (s + t)) : Nat) : Int) * ((2 ^ N : Nat) : Int) := by
    rw [← Int.natCast_mul, ← Int.natCast_mul, ← Nat.pow_add, ← Nat.pow_add]
    congr 2; omega
  have eV : vl k x * vl k y = (u * v * ((2 ^ (N - (s + t)) : Nat) : Int)) * ((2 ^ N : Nat) : Int) := by
    rw [hx.2, hy.2, Int.mul_assoc (u * v), ← ep]
    rw [Int.mul_assoc u, Int.mul_assoc u, ← Int.mul_assoc _ v, Int.mul_comm _ v, Int.mul_assoc v]
  have eS : vl k x * vl k y = sg (nn k x ^^ nn k y) (mg k x * mg k y) := sg_mul _ _ _ _
  have em : mg k x * mg k y = (u * v * ((2 ^ (N - (s + t)) : Nat) : Int)).natAbs * 2 ^ N := by
    have := congrArg Int.natAbs (eS.symm.trans eV)
    rw [sg_nat, Int.natAbs_mul, Int.natAbs_natCast] at this
    exact this
  have hr : rnd k.format (mg k x * mg k y) (lp k + lp k) = r := rnd_exact k.format (u := 0) (v := N) (Nat.le_of_lt h1) (by unfold lp at *; omega) (by rw [h2, em, Nat.pow_zero, Nat.mul_one])
  unfold Gi
  rw [mul_word hx.1 hy.1, hr]
  refine ⟨by unfold finW; rw [rg_word _ _ (Nat.le_of_lt h1)]; exact decide_eq_true h1, ?_⟩
  unfold vl
  rw [nn_word _ _ (Nat.le_of_lt h1), mg_word _ _ (Nat.le_of_lt h1), h2]
  have hp : (0 : Int) < ((2 ^ N : Nat) : Int) := by have := Nat.two_pow_pos N; omega
  have key : sg (nn k x ^^ nn k y) (u * v * ((2 ^ (N - (s + t)) : Nat) : Int)).natAbs * ((2 ^ N : Nat) : Int) = (u * v * ((2 ^ (N - (s + t)) : Nat) : Int)) * ((2 ^ N : Nat) : Int) := by
    rw [← eV, eS, em]
    unfold sg
    split
    · rw [Int.natCast_mul, Int.neg_mul]
    · rw [Int.natCast_mul]
  exact Int.eq_of_mul_eq_mul_right (by omega) key
theorem Gi.sum0 (k : FloatKind) {N s : Nat} (h : finW k 0 = true ∧ vl k 0 = 0) : Gi k N s 0 0 := ⟨h.1, by rw [h.2]; simp⟩
def sumTo (f : Nat → Int) : Nat → Int
  | 0 => 0
  | n + 1 => sumTo f n + f (n + 1)
theorem sumTo_bd {f : Nat → Int} {M : Nat} : ∀ n, (∀ i, 1 ≤ i → i ≤ n → (f i).natAbs ≤ M) → (sumTo f n).natAbs ≤ n * M
  | 0, _ => by simp [sumTo]
  | n + 1, h => by
    have h1 := sumTo_bd n fun i a b => h i a (by omega)
    have h2 := h (n + 1) (by omega) (Nat.le_refl _)
    unfold sumTo
    rw [Nat.add_mul, Nat.one_mul]
    omega
def termV (as ls : List Nat) (i : Nat) : Nat := fop .mul .f32 (fop .quo .f32 (fop .add .f32 (ls.getD (i - 1) 0) (ls.getD i 0)) 1073741824) (fop .sub .f32 (as.getD i 0) (as.getD (i - 1) 0))
theorem area_loop {as ls : List Nat} {n : Nat} {f : Nat → Int} (h24 : n ≤ 24) (ht : ∀ i, 1 ≤ i → i < n → Gi .f32 149 9 (termV as ls i) (f i) ∧ (f i).natAbs ≤ 1000) : ∀ d i all m, i + d = n → d < m → 1 ≤ i → Gi .f32 149 9 all (sumTo f (i - 1)) →
    ∃ all', z1e as ls n n m all (Int.ofNat i) = some (all', Int.ofNat n, false) ∧ Gi .f32 149 9 all' (sumTo f (n - 1))
  | 0, i, all, m, h1, h2, h3, h4 => by
    obtain ⟨m, rfl⟩ : ∃ k, m = k + 1 := ⟨m - 1, by omega⟩
    obtain rfl : i = n := by omega
    refine ⟨all, ?_, h4⟩
    rw [z63]; unfold z2n; rw [ltN_f (Nat.le_refl _)]; rfl
  | d + 1, i, all, m, h1, h2, h3, h4 => by
    obtain ⟨m, rfl⟩ : ∃ k, m = k + 1 := ⟨m - 1, by omega⟩
    have hi : i < n := by omega
    have e1 : subI .i64 (Int.ofNat i) 1 = Int.ofNat (i - 1) := subN1 (by omega) (by omega)
    have hb := sumTo_bd (f := f) (M := 1000) (i - 1) fun j a b => (ht j a (by omega)).2
    obtain ⟨t1, t2⟩ := ht i h3 hi
    have hs : sumTo f (i + 1 - 1) = sumTo f (i - 1) + f i := by
      obtain ⟨j, rfl⟩ : ∃ j, i = j + 1 := ⟨i - 1, by omega⟩
      rfl
    obtain ⟨all', q1, q2⟩ := area_loop h24 ht d (i + 1) (fop .add .f32 all (termV as ls i)) m (by omega) (by omega) (by omega) (by
      rw [hs]
      refine add_ex (by decide +kernel) h4 t1 ?_
      have : FloatKind.f32.format.binade = 8388608 := by decide
      rw [this]
      have : (i - 1) * 1000 ≤ 24000 := by omega
      omega)
    refine ⟨all', ?_, q2⟩
    rw [z63]; unfold z2n
    rw [ltN_t hi, e1, okIx_t hi, okIx_t (show i - 1 < n by omega), ix1, ix1, addI1 (by omega)]
    simp only [br_true, grd_true, gF]
    exact q1
theorem LiftArea_ex {as ls ds : List Nat} {f : Nat → Int} (hv : validProfB as ls ds = true) (ht : ∀ i, 1 ≤ i → i < as.length → Gi .f32 149 9 (termV as ls i) (f i) ∧ (f i).natAbs ≤ 1000) :
    ∃ a, Gi .f32 149 9 a (sumTo f (as.length - 1)) ∧ z2p as.length as ls.length ls ds.length ds = some (a, true) := by
  obtain ⟨c1, c2, c3, c4⟩ := validProfB_len hv
  obtain ⟨p1, q1⟩ := z38 (impl_ValidProfile_eq (as := as) (ls := ls) (ds := ds) (by omega) (by omega))
  obtain ⟨a, h1, h2⟩ := area_loop (as := as) (ls := ls) (n := as.length) c2 ht (as.length - 1) 1 0 big (by omega) (big_gt (by omega)) (by omega) (Gi.sum0 .f32 (by decide +kernel))
  obtain ⟨g1, g2, _⟩ := zdt rfl (show z1e as ls as.length as.length big 0 1 = some _ from h1)
  obtain ⟨p4, q4, r4⟩ := z6p (impl_checked_eq a)
  have hf : finB a = true := by rw [finB_eq]; exact h2.1
  have hk : checkV a = a := by unfold checkV; rw [if_pos hf]
  rw [hk] at q4
  rw [hf] at r4
  refine ⟨a, h2, ?_⟩
  unfold z2p z5q
  rw [c3] at p1 q1 ⊢
  have pl : pF ls 0 (muN as.length 1) = ls := by rw [← c3]; exact pF_all _
  simp only [pF_all, pl, p1, q1, hv, g1, g2, p4, q4, r4, grd_true, bnot_true, br_false]
theorem term_grid (a b : Fin 17) (d : Fin 5) : 1 ≤ d.val → (finW .f32 (fop .mul .f32 (fop .quo .f32 (fop .add .f32 (l8 ((a : Int) - 6)) (l8 ((b : Int) - 6))) 1073741824) (x32 (d : Int))) = true ∧ vl .f32 (fop .mul .f32 (fop .quo .f32 (fop .add .f32 (l8 ((a : Int) - 6)) (l8 ((b : Int) - 6))) 1073741824) (x32 (d : Int))) = (((a : Int) - 6) + ((b : Int) - 6)) * d * ((2 ^ (149 - 9) : Nat) : Int)) ∧
    (finW .f32 (fop .mul .f32 (fop .quo .f32 (fop .add .f32 (fneg .f32 (l8 ((a : Int) - 6))) (fneg .f32 (l8 ((b : Int) - 6)))) 1073741824) (x32 (d : Int))) = true ∧ vl .f32 (fop .mul .f32 (fop .quo .f32 (fop .add .f32 (fneg .f32 (l8 ((a : Int) - 6))) (fneg .f32 (l8 ((b : Int) - 6)))) 1073741824) (x32 (d : Int))) = -((((a : Int) - 6) + ((b : Int) - 6)) * d) * ((2 ^ (149 - 9) : Nat) : Int)) := by revert a b d; decide +kernel
theorem term_gi {a b d : Int} (ha : -6 ≤ a ∧ a ≤ 10) (hb : -6 ≤ b ∧ b ≤ 10) (hd : 1 ≤ d ∧ d ≤ 4) : Gi .f32 149 9 (fop .mul .f32 (fop .quo .f32 (fop .add .f32 (l8 a) (l8 b)) 1073741824) (x32 d)) ((a + b) * d) ∧ Gi .f32 149 9 (fop .mul .f32 (fop .quo .f32 (fop .add .f32 (fneg .f32 (l8 a)) (fneg .f32 (l8 b))) 1073741824) (x32 d)) (-((a + b) * d)) := by
  have g := term_grid ⟨(a + 6).toNat, by omega⟩ ⟨(b + 6).toNat, by omega⟩ ⟨d.toNat, by omega⟩ (by simp only; omega)
  simp only at g
  rw [show (((a + 6).toNat : Int)) - 6 = a by omega, show (((b + 6).toNat : Int)) - 6 = b by omega, show ((d.toNat : Int)) = d by omega] at g
  exact g
theorem prod_bd {a b d : Int} (ha : -6 ≤ a ∧ a ≤ 10) (hb : -6 ≤ b ∧ b ≤ 10) (hd : 1 ≤ d ∧ d ≤ 4) : ((a + b) * d).natAbs ≤ 1000 := by
  rw [Int.natAbs_mul]
  have h1 : (a + b).natAbs ≤ 20 := by omega
  have h2 : d.natAbs ≤ 4 := by omega
  exact Nat.le_trans (Nat.mul_le_mul h1 h2) (by decide)
theorem grid_area {u : Int} {us vs ws : List Int} (hu1 : -16 ≤ u) (hu2 : u ≤ -8) (hc : climb u us) (hn1 : 2 ≤ us.length) (hn2 : us.length ≤ 6) (hv : vs.length = us.length) (hw : ws.length = us.length) (hvs : ∀ v ∈ vs, -6 ≤ v ∧ v ≤ 10) (hws : ∀ w ∈ ws, 0 ≤ w ∧ w ≤ 8) :
    ∃ a b, z2p us.length (us.map x32) us.length (vs.map l8) us.length (ws.map x32) = some (a, true) ∧ z2p us.length (mirA (us.map x32)) us.length (mirA (vs.map l8)) us.length (ws.map x32).reverse = some (b, true) ∧ finW .f32 a = true ∧ finW .f32 b = true ∧ vl .f32 a + vl .f32 b = 0 := by
  have hV := drawn_valid (.inr ⟨u, us, vs, ws, hu1, hu2, hc, hn1, hn2, hv, hw, hvs, hws, rfl, rfl, rfl⟩)
  have hM := mirror_valid hV
  have hr := drawn_rise ⟨hu1, hu2⟩ hc hn2
  have bl : ∀ j, j < us.length → -6 ≤ vs.getD j 0 ∧ vs.getD j 0 ≤ 10 := fun j hj => hvs _ (getD_mem (xs := vs) (j := j) (by omega))
  have gl : ∀ j, j < us.length → (vs.map l8).getD j 0 = l8 (vs.getD j 0) := fun j hj => map_getD l8 vs (by omega)
  have ga : ∀ j, j < us.length → (us.map x32).getD j 0 = x32 (us.getD j 0) := fun j hj => map_getD x32 us hj
  have stepd : ∀ i, 1 ≤ i → i < us.length → 1 ≤ us.getD i 0 - us.getD (i - 1) 0 ∧ us.getD i 0 - us.getD (i - 1) 0 ≤ 4 := fun i h1 h2 => by
    obtain ⟨k, k1, k2, k3⟩ := climb_next hc (i - 1) (by omega)
    rw [show i - 1 + 1 = i by omega] at k3
    omega
  obtain ⟨a, a1, a2⟩ := LiftArea_ex (f := fun i => (vs.getD (i - 1) 0 + vs.getD i 0) * (us.getD i 0 - us.getD (i - 1) 0)) hV (fun i h1 h2 => by
    rw [List.length_map] at h2
    unfold termV
    rw [gl _ (by omega), gl _ h2, ga _ h2, ga _ (by omega), grid_x32.ss (hr.1 i h2).1 (hr.1 i h2).2 (hr.1 (i - 1) (by omega)).1 (hr.1 (i - 1) (by omega)).2]
    exact ⟨(term_gi (bl _ (by omega)) (bl _ h2) (stepd i h1 h2)).1, prod_bd (bl _ (by omega)) (bl _ h2) (stepd i h1 h2)⟩)
  have gm : ∀ j, j < us.length → (mirA (vs.map l8)).getD j 0 = fneg .f32 (l8 (vs.getD (us.length - 1 - j) 0)) := fun j hj => by
    rw [mirA_get (by rw [List.length_map]; omega), List.length_map, hv, gl _ (by omega)]
  have hmr := mir_rise hr
  have gy : ∀ j, j < us.length → (mirA (us.map x32)).getD j 0 = y32 (- us.getD (us.length - 1 - j) 0) := fun j hj => by
    rw [← mir_map, map_getD y32 _ (by rw [mir_length]; exact hj), mir_get hj]
  obtain ⟨b, b1, b2⟩ := LiftArea_ex (f := fun i => -((vs.getD (us.length - 1 - (i - 1)) 0 + vs.getD (us.length - 1 - i) 0) * (us.getD (us.length - 1 - (i - 1)) 0 - us.getD (us.length - 1 - i) 0))) hM (fun i h1 h2 => by
    rw [mirA_length, List.length_map] at h2
    have r1 := hr.1 (us.length - 1 - (i - 1)) (by omega)
    have r2 := hr.1 (us.length - 1 - i) (by omega)
    have sd := stepd (us.length - 1 - (i - 1)) (by omega) (by omega)
    rw [show us.length - 1 - (i - 1) - 1 = us.length - 1 - i by omega] at sd
    unfold termV
    rw [gm _ (by omega), gm _ h2, gy _ h2, gy _ (by omega), grid_y32.ss (by omega) (by omega) (by omega) (by omega)]
    rw [show - us.getD (us.length - 1 - i) 0 - - us.getD (us.length - 1 - (i - 1)) 0 = us.getD (us.length - 1 - (i - 1)) 0 - us.getD (us.length - 1 - i) 0 by omega]
    refine ⟨(term_gi (bl _ (by omega)) (bl _ (by omega)) sd).2, ?_⟩
    rw [Int.natAbs_neg]
    exact prod_bd (bl _ (by omega)) (bl _ (by omega)) sd)
  simp only [mirA_length, List.length_map, List.length_reverse, hv, hw] at a1 a2 b1 b2
  refine ⟨a, b, a2, b2, a1.1, b1.1, ?_⟩
  rw [a1.2, b1.2, ← Int.add_mul]
  have : ∀ n, n = us.length → n = 2 ∨ n = 3 ∨ n = 4 ∨ n = 5 ∨ n = 6 := fun n h => by omega
  have key : sumTo (fun i => (vs.getD (i - 1) 0 + vs.getD i 0) * (us.getD i 0 - us.getD (i - 1) 0)) (us.length - 1) + sumTo (fun i => -((vs.getD (us.length - 1 - (i - 1)) 0 + vs.getD (us.length - 1 - i) 0) * (us.getD (us.length - 1 - (i - 1)) 0 - us.getD (us.length - 1 - i) 0))) (us.length - 1) = 0 := by
    have comm : ∀ p q s : Int, (p + q) * s = (q + p) * s := fun p q s => by rw [Int.add_comm]
    rcases this _ rfl with h | h | h | h | h <;> rw [h] <;> simp only [sumTo] <;> simp only [Nat.reduceSub, Nat.reduceAdd, Nat.sub_zero, Nat.add_sub_cancel]
    all_goals (simp only [comm (vs.getD 1 0) (vs.getD 0 0), comm (vs.getD 2 0) (vs.getD 1 0), comm (vs.getD 3 0) (vs.getD 2 0), comm (vs.getD 4 0) (vs.getD 3 0), comm (vs.getD 5 0) (vs.getD 4 0)]; omega)
  rw [key, Int.zero_mul]
theorem cut_down_eq (n d : Nat) : Ieee.Toward.down.cut false n d = n / 2 ^ d := by
  rw [← cut_zero_eq false n d]; rfl
theorem quo_close {k : FloatKind} {x y N : Nat} (e : Nat) (hx : finW k x = true) (hy : finW k y = true) (hN : lp k + (N : Int) = 0) (h0 : 0 < mg k y) (he : (e + 2) * k.format.binade ≤ k.format.infRung) (hm : 2 * mg k x * 2 ^ N < k.format.binade * 2 ^ e * mg k y) :
    finW k (fop .quo k x y) = true ∧ nn k (fop .quo k x y) = (nn k x ^^ nn k y) ∧ mg k (fop .quo k x y) * mg k y ≤ mg k x * 2 ^ N + 2 ^ (e + 1) * mg k y ∧ mg k x * 2 ^ N ≤ mg k (fop .quo k x y) * mg k y + 2 ^ (e + 1) * mg k y := by
  obtain ⟨m, a, h1, h2⟩ := fin_read hx
  obtain ⟨n, b, h3, h4⟩ := fin_read hy
  have hn : n ≠ 0 := by
    rintro rfl
    rw [Nat.zero_mul] at h4
    omega
  have ew : fop .quo k x y = k.format.nearest (nn k x ^^ nn k y) (2 * (m <<< (k.format.fractionBits + 2 + n.log2 - m.log2) / n) + ((m <<< (k.format.fractionBits + 2 + n.log2 - m.log2) % n != 0) : Bool).toNat) (lp k + a - (lp k + b) - (k.format.fractionBits + 2 + n.log2 - m.log2 : Nat) - 1) := by
    unfold fop floatBits Ieee.Format.div
    simp only [h1, h3, Ieee.Datum.quotient]
    rw [if_neg hn]
    rfl
  rw [ew, (nearest_word _ _ _ _).1]
  generalize hmore : k.format.fractionBits + 2 + n.log2 - m.log2 = more
  rw [Nat.shiftLeft_eq, nn_word _ _ (rnd_inf _ _ _), mg_word _ _ (rnd_inf _ _ _)]
  have hb : ∀ c : Bool, c.toNat ≤ 1 := fun c => by cases c <;> simp
  have hP1 : (2 * (m * 2 ^ more / n) + ((m * 2 ^ more % n != 0) : Bool).toNat) * n ≤ 2 * (m * 2 ^ more) + n := by
    have := Nat.div_mul_le_self (m * 2 ^ more) n
    have : (2 * (m * 2 ^ more / n) + ((m * 2 ^ more % n != 0) : Bool).toNat) * n ≤ (2 * (m * 2 ^ more / n) + 1) * n := Nat.mul_le_mul_right _ (by have := hb (m * 2 ^ more % n != 0); omega)
    have t : (2 * (m * 2 ^ more / n) + 1) * n = 2 * (m * 2 ^ more / n * n) + n := by rw [Nat.add_mul, Nat.one_mul, Nat.mul_assoc]
    omega
  have hP2 : 2 * (m * 2 ^ more) ≤ (2 * (m * 2 ^ more / n) + ((m * 2 ^ more % n != 0) : Bool).toNat) * n + n := by
    have hdm := Nat.div_add_mod (m * 2 ^ more) n
    have hmod := Nat.mod_lt (m * 2 ^ more) (show 0 < n by omega)
    have t : (2 * (m * 2 ^ more / n) + ((m * 2 ^ more % n != 0) : Bool).toNat) * n = 2 * (n * (m * 2 ^ more / n)) + ((m * 2 ^ more % n != 0) : Bool).toNat * n := by
      rw [Nat.add_mul, Nat.mul_assoc, Nat.mul_comm (m * 2 ^ more / n) n]
    rw [t]
    by_cases hz : m * 2 ^ more % n = 0
    · rw [hz] at hdm ⊢; simp; omega
    · rw [show (m * 2 ^ more % n != 0) = true by simpa using hz]
      simp only [Bool.toNat_true, Nat.one_mul]
      omega
  have hP3 : m ≠ 0 → n * 2 ^ (k.format.fractionBits + 1) ≤ m * 2 ^ more := fun hm0 => by
    have q1 : 2 ^ m.log2 ≤ m := Nat.log2_self_le hm0
    have q2 : n < 2 ^ (n.log2 + 1) := Nat.lt_log2_self
    have q3 : 2 ^ (n.log2 + 1 + (k.format.fractionBits + 1)) ≤ 2 ^ (m.log2 + more) := Nat.pow_le_pow_right (by omega) (by omega)
    rw [Nat.pow_add 2 (n.log2 + 1), Nat.pow_add 2 m.log2 more] at q3
    have q4 := Nat.mul_le_mul_right (2 ^ more) q1
    have q5 := Nat.mul_le_mul_right (2 ^ (k.format.fractionBits + 1)) (Nat.le_of_lt q2)
    omega
  have hP0 : m = 0 → (2 * (m * 2 ^ more / n) + ((m * 2 ^ more % n != 0) : Bool).toNat) = 0 := fun hm0 => by subst hm0; simp
  generalize (2 * (m * 2 ^ more / n) + ((m * 2 ^ more % n != 0) : Bool).toNat) = P at hP0 hP1 hP2 ⊢
  have hbin : k.format.binade = 2 ^ k.format.fractionBits := by cases k <;> decide
  have esc : rnd k.format P (lp k + a - (lp k + b) - (more : Nat) - 1) = rnd k.format (P * 2 ^ (N + a)) (lp k - ((b + more + 1 : Nat) : Int)) := by
    rw [rnd_scale]; congr 1; omega
  rw [esc]
  have hpl : lp k - ((b + more + 1 : Nat) : Int) + ((b + more + 1 : Nat) : Int) = k.format.leastPlace := by unfold lp; omega
  by_cases hm0 : m = 0
  · have e0 := hP0 hm0
    rw [e0, Nat.zero_mul, rnd_zero, rungV_zero, ← h2, hm0]
    have i0 : 0 < k.format.infRung := by cases k <;> decide
    refine ⟨?_, rfl, by simp, by simp⟩
    unfold finW; rw [rg_word _ _ (Nat.le_of_lt i0)]; exact decide_eq_true i0
  · have p3 := hP3 hm0
    have pn : 0 < n := by omega
    -- one step of the quotient is small
    have hX : mg k x * 2 ^ N * 2 ^ (more + 1) = 2 * (m * 2 ^ more) * 2 ^ (N + a) := by
      rw [← h2, Nat.pow_add 2 more 1, Nat.pow_add 2 N a]
      simp only [Nat.pow_one, Nat.mul_assoc, Nat.mul_comm, Nat.mul_left_comm]
    have hY : ∀ c : Nat, c * 2 ^ (b + more + 1) * n = c * mg k y * 2 ^ (more + 1) := fun c => by
      rw [← h4, show b + more + 1 = b + (more + 1) by omega, Nat.pow_add 2 b (more + 1)]
      simp only [Nat.mul_assoc, Nat.mul_comm, Nat.mul_left_comm]
    have hlt : P * 2 ^ (N + a) < k.format.binade * 2 ^ (e + (b + more + 1)) := by
      refine Nat.lt_of_mul_lt_mul_right (a := n) ?_
      have l1 : P * 2 ^ (N + a) * n ≤ 4 * (m * 2 ^ more) * 2 ^ (N + a) := by
        rw [Nat.mul_right_comm]
        refine Nat.mul_le_mul_right _ (Nat.le_trans hP1 ?_)
        have : n ≤ m * 2 ^ more := Nat.le_trans (Nat.le_mul_of_pos_right n (Nat.two_pow_pos _)) p3
        omega
      have l2 : 4 * (m * 2 ^ more) * 2 ^ (N + a) = 2 * mg k x * 2 ^ N * 2 ^ (more + 1) := by
        rw [show 2 * mg k x * 2 ^ N * 2 ^ (more + 1) = 2 * (mg k x * 2 ^ N * 2 ^ (more + 1)) by simp only [Nat.mul_assoc], hX]
        simp only [← Nat.mul_assoc]
      have l3 : k.format.binade * 2 ^ (e + (b + more + 1)) * n = k.format.binade * 2 ^ e * mg k y * 2 ^ (more + 1) := by
        rw [Nat.pow_add 2 e, ← Nat.mul_assoc, hY]
      rw [l3]
      refine Nat.lt_of_le_of_lt l1 ?_
      rw [l2]
      exact Nat.mul_lt_mul_of_pos_right hm (Nat.two_pow_pos _)
    obtain ⟨r1, r2, r3⟩ := rnd_close k.format (e := e) hpl he hlt
    -- one unit of the quotient
    have hone : n * 2 ^ (N + a) ≤ 2 ^ e * mg k y * 2 ^ (more + 1) := by
      have g1 : 2 * (m * 2 ^ more) * 2 ^ (N + a) ≤ (P * 2 ^ (N + a) + 2 ^ (N + a)) * n := by
        rw [show (P * 2 ^ (N + a) + 2 ^ (N + a)) * n = (P * n + n) * 2 ^ (N + a) by rw [← Nat.add_one_mul, ← Nat.add_one_mul, Nat.mul_right_comm]]
        exact Nat.mul_le_mul_right _ hP2
      have g2 : n * 2 ^ (k.format.fractionBits + 1) * 2 ^ (N + a) ≤ mg k x * 2 ^ N * 2 ^ (more + 1) := by
        rw [hX]
        exact Nat.mul_le_mul_right _ (by omega)
      have g3 : mg k x * 2 ^ N * 2 ^ (more + 1) ≤ k.format.binade * 2 ^ e * mg k y * 2 ^ (more + 1) := Nat.mul_le_mul_right _ (by
        have := hm
        rw [Nat.mul_assoc 2] at this
        omega)
      have g4 := Nat.le_trans g2 g3
      rw [hbin] at g4
      refine Nat.le_of_mul_le_mul_left (c := 2 ^ k.format.fractionBits) ?_ (Nat.two_pow_pos _)
      refine Nat.le_trans (Nat.le_trans ?_ g4) (Nat.le_of_eq ?_)
      · rw [Nat.pow_succ]
        have : 2 ^ k.format.fractionBits * (n * 2 ^ (N + a)) = n * 2 ^ k.format.fractionBits * 2 ^ (N + a) := by simp only [Nat.mul_assoc, Nat.mul_comm, Nat.mul_left_comm]
        rw [this]
        refine Nat.mul_le_mul_right _ (Nat.mul_le_mul_left _ ?_)
        omega
      · simp only [Nat.mul_assoc]
    generalize rungV k.format (rnd k.format (P * 2 ^ (N + a)) (lp k - ((b + more + 1 : Nat) : Int))) = R at r1 r2 ⊢
    refine ⟨?_, rfl, ?_, ?_⟩
    · unfold finW; rw [rg_word _ _ (rnd_inf _ _ _)]; exact decide_eq_true r3
    · refine Nat.le_of_mul_le_mul_right (c := 2 ^ (more + 1)) ?_ (Nat.two_pow_pos _)
      have t1 := Nat.mul_le_mul_right n r1
      rw [hY, Nat.add_mul, Nat.pow_add 2 e, hY, show P * 2 ^ (N + a) * n = P * n * 2 ^ (N + a) by rw [Nat.mul_right_comm]] at t1
      have t2 := Nat.mul_le_mul_right (2 ^ (N + a)) hP1
      rw [Nat.add_mul, ← hX] at t2
      rw [Nat.add_mul, show 2 ^ (e + 1) = 2 * 2 ^ e by rw [Nat.pow_succ, Nat.mul_comm], Nat.mul_assoc 2, Nat.mul_assoc 2]
      omega
    · refine Nat.le_of_mul_le_mul_right (c := 2 ^ (more + 1)) ?_ (Nat.two_pow_pos _)
      have t1 := Nat.mul_le_mul_right n r2
      rw [Nat.add_mul, hY, Nat.pow_add 2 e, hY, show P * 2 ^ (N + a) * n = P * n * 2 ^ (N + a) by rw [Nat.mul_right_comm]] at t1
      have t2 := Nat.mul_le_mul_right (2 ^ (N + a)) hP2
      rw [Nat.add_mul, ← hX] at t2
      rw [Nat.add_mul, show 2 ^ (e + 1) = 2 * 2 ^ e by rw [Nat.pow_succ, Nat.mul_comm], Nat.mul_assoc 2, Nat.mul_assoc 2]
      omega
set_option exponentiation.threshold 2000 in
theorem floor_small {x : Nat} (hx : finW .f64 x = true) (hn : nn .f64 x = false) (hm : mg .f64 x < 2 ^ 1074) : fint .down x = 0 := by
  obtain ⟨m, a, h1, h2⟩ := fin_read hx
  rw [hn] at h1
  have h1' : FloatKind.f64.decode x = .number false m (lp .f64 + a) := h1
  have hlp : lp .f64 = -1074 := by decide +kernel
  have hi : (Ieee.Datum.number false m (lp .f64 + a)).integral .down = .number false 0 0 := by
    show Ieee.Datum.number _ (Ieee.Toward.down.cut _ _ _) 0 = _
    rw [cut_down_eq, Nat.shiftLeft_eq]
    congr 1
    by_cases h0 : m = 0
    · subst h0; simp
    · have ha : a < 1074 := by
        have g0 : 2 ^ a ≤ m * 2 ^ a := Nat.le_mul_of_pos_left _ (Nat.pos_of_ne_zero h0)
        have g : 2 ^ a < 2 ^ 1074 := Nat.lt_of_le_of_lt g0 (by rw [h2]; exact hm)
        exact (Nat.pow_lt_pow_iff_right (by omega)).1 g
      rw [show (lp .f64 + (a : Int)).toNat = 0 by omega, show (-(lp .f64 + (a : Int))).toNat = 1074 - a by omega, Nat.pow_zero, Nat.mul_one]
      refine Nat.div_eq_of_lt ?_
      refine Nat.lt_of_mul_lt_mul_right (a := 2 ^ a) ?_
      rw [← Nat.pow_add, show 1074 - a + a = 1074 by omega, h2]
      exact hm
  unfold fint
  rw [finW_nan hx, h1', if_neg (by decide), hi]
  decide +kernel
theorem sub_zero_vl {k : FloatKind} {x : Nat} (hx : finW k x = true) : finW k (fop .sub k x 0) = true ∧ vl k (fop .sub k x 0) = vl k x := by
  have z : finW k 0 = true ∧ vl k 0 = 0 := by cases k <;> decide +kernel
  rw [sub_word hx z.1, z.2, Int.sub_zero]
  have ev : (vl k x).natAbs = rungV k.format (rg k.format x) := by unfold vl; rw [sg_abs]; rfl
  have e : rnd k.format (vl k x).natAbs (lp k) = rg k.format x := rnd_exact _ (Nat.le_of_lt (finW_lt hx)) (u := 0) (v := 0) rfl (by rw [ev])
  rw [e]
  exact vl_sgn _ _ (finW_lt hx) ev.symm
set_option exponentiation.threshold 2000 in
theorem down_vl {y z : Nat} (hy : finW .f64 y = true) (hz : finW .f32 z = true) (h : vl .f64 y = vl .f32 z * 2 ^ 925) : finW .f32 (fcvV .f64 .f32 y) = true ∧ vl .f32 (fcvV .f64 .f32 y) = vl .f32 z := by
  obtain ⟨m, e, h1, h2⟩ := fin_read hy
  have hm : mg .f64 y = mg .f32 z * 2 ^ 925 := by
    have := congrArg Int.natAbs h
    rw [Int.natAbs_mul] at this
    unfold vl at this
    rw [sg_abs, sg_abs] at this
    rw [this]
    congr 1
  have hlp : lp .f64 = -1074 := by decide +kernel
  have hlp2 : FloatKind.f32.format.leastPlace = -149 := by decide +kernel
  have hr : rnd FloatKind.f32.format m (lp .f64 + e) = rg FloatKind.f32.format z := rnd_exact _ (Nat.le_of_lt (finW_lt hz)) (u := e) (v := 925) (by omega) (by rw [h2, hm]; rfl)
  have hw : fcvV .f64 .f32 y = FloatKind.f32.format.word (nn .f64 y) (rg FloatKind.f32.format z) := by
    unfold fcvV fcv
    rw [finW_nan hy]
    simp only [Bool.false_eq_true, if_false]
    unfold floatToFloatBits
    rw [if_neg (by intro h; cases h)]
    have hd : FloatKind.f64.decode y = .number (nn .f64 y) m (lp .f64 + e) := h1
    rw [hd]
    simp only
    have hw : FloatKind.f32.encode (.number (nn .f64 y) m (lp .f64 + e)) = FloatKind.f32.format.word (nn .f64 y) (rnd FloatKind.f32.format m (lp .f64 + e)) := (nearest_word _ _ _ _).1
    rw [hw, hr]
    have hi : (FloatKind.f32.decode (FloatKind.f32.format.word (nn .f64 y) (rg FloatKind.f32.format z))).isInfinity = false := read_word _ _ (finW_lt hz)
    rw [hi]
    rfl
  have hlt := finW_lt hz
  rw [hw]
  refine ⟨?_, ?_⟩
  · unfold finW; rw [rg_word _ _ (Nat.le_of_lt hlt)]; exact decide_eq_true hlt
  · unfold vl at h ⊢
    rw [nn_word _ _ (Nat.le_of_lt hlt), mg_word _ _ (Nat.le_of_lt hlt)]
    rw [hm] at h
    show sg (nn .f64 y) (mg .f32 z) = sg (nn .f32 z) (mg .f32 z)
    have hp : (0 : Int) < 2 ^ 925 := by decide
    rw [show ((2 : Int) ^ 925) = ((2 ^ 925 : Nat) : Int) by simp, ← sg_scale] at h
    by_cases h0 : mg .f32 z = 0
    · rw [h0]; cases nn .f64 y <;> cases nn .f32 z <;> rfl
    · have hpos : 0 < mg .f32 z * 2 ^ 925 := Nat.mul_pos (by omega) (Nat.two_pow_pos _)
      generalize mg .f32 z * 2 ^ 925 = Q at h hpos
      cases h3 : nn .f64 y <;> cases h4 : nn .f32 z <;> rw [h3, h4] at h <;> simp only [sg, Bool.false_eq_true, if_false, if_true] at h ⊢ <;> omega
theorem half64 : finW .f64 4602678819172646912 = true ∧ vl .f64 4602678819172646912 = 2 ^ 1073 ∧ nn .f64 4602678819172646912 = false := by decide +kernel
theorem top64 : finW .f64 4606900943823306752 = true ∧ vl .f64 4606900943823306752 = 31 * 2 ^ 1069 ∧ srung FloatKind.f64.format 4606900943823306752 = 4606900943823306752 ∧ rungV FloatKind.f64.format 4606900943823306752 < 2 ^ 1074 ∧ srung FloatKind.f64.format 0 = 0 ∧ finW .f64 0 = true ∧ vl .f64 0 = 0 := by decide +kernel
theorem wrap_in {z : Nat} (hz : finW .f32 z = true) (h1 : -(2 ^ 148 : Int) ≤ vl .f32 z) (h2 : vl .f32 z ≤ 15 * 2 ^ 144) : finW .f32 (wrapV z) = true ∧ vl .f32 (wrapV z) = vl .f32 z := by
  obtain ⟨uf, uv⟩ := up_vl hz
  obtain ⟨hf, hv, hn⟩ := half64
  obtain ⟨tf, tv, ts, tr, zs, zf, zv⟩ := top64
  have b1 : -(2 ^ 1073 : Int) ≤ vl .f32 z * 2 ^ 925 := Int.le_trans (by decide +kernel) (Int.mul_le_mul_of_nonneg_right h1 (by decide))
  have b2 : vl .f32 z * 2 ^ 925 ≤ 15 * 2 ^ 1069 := Int.le_trans (Int.mul_le_mul_of_nonneg_right h2 (by decide)) (by decide +kernel)
  have eH : (31 * 2 ^ 1069 : Int) = 15 * 2 ^ 1069 + 2 ^ 1073 := by decide +kernel
  have s1 := sum_ge (a := 0) uf hf zf (by rw [zv, uv, hv]; generalize (2 ^ 1073 : Int) = H at *; omega)
  have s2 := sum_le (a := 4606900943823306752) uf hf tf (by rw [tv, uv, hv, eH]; generalize (2 ^ 1073 : Int) = H at *; generalize (15 * 2 ^ 1069 : Int) = T at *; omega)
  rw [zs, srung_vl] at s1
  rw [ts, srung_vl] at s2
  have hneg : nn .f64 (fop .add .f64 (fcvV .f32 .f64 z) 4602678819172646912) = false := by
    rw [add_word uf hf, nn_word _ _ (rnd_inf _ _ _), hn, uv, hv]
    unfold sgn0
    split
    · simp
    · refine decide_eq_false ?_
      generalize (2 ^ 1073 : Int) = H at *
      omega
  rw [hneg] at s1 s2
  simp only [sg, Bool.false_eq_true, if_false] at s1 s2
  have hr : rg FloatKind.f64.format (fop .add .f64 (fcvV .f32 .f64 z) 4602678819172646912) ≤ 4606900943823306752 := by omega
  have hfl := floor_small (finW_of (k := .f64) hr (by decide)) hneg (Nat.lt_of_le_of_lt (mg_le (k := .f64) hr) tr)
  have hY : wrapY z = fop .sub .f64 (fcvV .f32 .f64 z) 0 := by unfold wrapY; rw [hfl]
  obtain ⟨y1, y2⟩ := sub_zero_vl uf
  rw [← hY] at y1 y2
  obtain ⟨d1, d2⟩ := down_vl y1 hz (by rw [y2, uv])
  have h32 : finW .f32 1056964608 = true ∧ vl .f32 1056964608 = 2 ^ 148 := by decide +kernel
  have hc : fcmp .geq .f32 (fcvV .f64 .f32 (wrapY z)) 1056964608 = false := by
    rw [(fcmp_vl d1 h32.1).2.2.2.2.2, d2, h32.2]
    exact decide_eq_false (by omega)
  unfold wrapV
  rw [hc]
  exact ⟨d1, d2⟩
def riseB (ls : List Nat) (i : Nat) : Bool := fcmp .gtr .f32 (ls.getD i 0) 0 && fcmp .leq .f32 (ls.getD (i - 1) 0) 0
def zeroW (as ls : List Nat) (i : Nat) : Nat := fop .add .f32 (as.getD (i - 1) 0) (fop .mul .f32 (fop .sub .f32 (as.getD i 0) (as.getD (i - 1) 0)) (fop .quo .f32 (ls.getD (i - 1) 0) (fop .sub .f32 (ls.getD (i - 1) 0) (ls.getD i 0))))
theorem ZeroLift_ex {as ls ds : List Nat} (hv : validProfB as ls ds = true) :
    ((∀ i, 1 ≤ i → i < as.length → riseB ls i = false) ∧ z4a as.length as ls.length ls ds.length ds = some (0, false)) ∨
    ∃ i, 1 ≤ i ∧ i < as.length ∧ riseB ls i = true ∧ z4a as.length as ls.length ls ds.length ds = some (checkV (zeroW as ls i), finB (zeroW as ls i)) := by
  obtain ⟨c1, c2, c3, c4⟩ := validProfB_len hv
  obtain ⟨p1, q1⟩ := z38 (impl_ValidProfile_eq (as := as) (ls := ls) (ds := ds) (by omega) (by omega))
  have pl : pF ls 0 (muN as.length 1) = ls := by rw [← c3]; exact pF_all _
  have pd : pF ds 0 (muN as.length 1) = ds := by rw [← c4]; exact pF_all _
  rw [c3, c4] at p1 q1 ⊢
  have hs : ∀ m i, 1 ≤ i → i < as.length → z0u as ls as.length as.length (m + 1) (Int.ofNat i) = if (!riseB ls i) = true then z0u as ls as.length as.length m (Int.ofNat (i + 1)) else some (.inl (checkV (zeroW as ls i), finB (zeroW as ls i))) := by
    intro m i h1 hi
    have e1 : subI .i64 (Int.ofNat i) 1 = Int.ofNat (i - 1) := subN1 (by omega) (by omega)
    obtain ⟨p4, q4, r4⟩ := z6p (impl_checked_eq (zeroW as ls i))
    unfold zeroW at p4 q4 r4
    rw [zcb]; unfold z3k
    rw [ltN_t hi, e1, okIx_t hi, okIx_t (show i - 1 < as.length by omega), ix1, ix1, addI1 (by omega)]
    simp only [br_true, grd_true, gF, p4, q4, r4]
    unfold riseB zeroW
    cases fcmp .gtr .f32 (ls.getD i 0) 0 <;> cases fcmp .leq .f32 (ls.getD (i - 1) 0) 0 <;> rfl
  have he : ∀ m, z0u as ls as.length as.length (m + 1) (Int.ofNat as.length) = some (.inr (Int.ofNat as.length, false)) := fun m => by
    rw [zcb]; unfold z3k; rw [ltN_f (Nat.le_refl _)]; rfl
  have go : ∀ d i m, i + d = as.length → d < m → 1 ≤ i → ((∀ j, i ≤ j → j < as.length → riseB ls j = false) ∧ z0u as ls as.length as.length m (Int.ofNat i) = some (.inr (Int.ofNat as.length, false))) ∨ ∃ j, i ≤ j ∧ j < as.length ∧ riseB ls j = true ∧ z0u as ls as.length as.length m (Int.ofNat i) = some (.inl (checkV (zeroW as ls j), finB (zeroW as ls j))) := by
    intro d
    induction d with
    | zero =>
      intro i m h1 h2 h3
      obtain ⟨m, rfl⟩ : ∃ k, m = k + 1 := ⟨m - 1, by omega⟩
      obtain rfl : i = as.length := by omega
      exact .inl ⟨fun j a b => by omega, he m⟩
    | succ d ih =>
      intro i m h1 h2 h3
      obtain ⟨m, rfl⟩ : ∃ k, m = k + 1 := ⟨m - 1, by omega⟩
      rw [hs m i h3 (by omega)]
      cases hr : riseB ls i with
      | true => exact .inr ⟨i, Nat.le_refl _, by omega, hr, by simp⟩
      | false =>
        simp only [Bool.not_false, if_true]
        rcases ih (i + 1) m (by omega) (by omega) (by omega) with ⟨g1, g2⟩ | ⟨j, g1, g2, g3, g4⟩
        · refine .inl ⟨fun j a b => ?_, g2⟩
          by_cases e : j = i
          · rw [e]; exact hr
          · exact g1 j (by omega) b
        · exact .inr ⟨j, by omega, g2, g3, g4⟩
  rcases go (as.length - 1) 1 big (by omega) (big_gt (by omega)) (by omega) with ⟨g1, g2⟩ | ⟨j, g1, g2, g3, g4⟩
  · obtain ⟨k1, k2, _⟩ := zhn rfl (show z0u as ls as.length as.length big 1 = some _ from g2)
    refine .inl ⟨g1, ?_⟩
    unfold z4a z5r
    simp only [pF_all, pl, pd, p1, q1, hv, k1, k2, grd_true, bnot_true, br_false]
  · obtain ⟨k1, k2, k3, k4⟩ := zhj rfl (show z0u as ls as.length as.length big 1 = some _ from g4)
    refine .inr ⟨j, g1, g2, g3, ?_⟩
    unfold z4a z5r
    simp only [pF_all, pl, pd, p1, q1, hv, k1, k2, k3, k4, grd_true, bnot_true, br_false, br_true]
def riseTo (ls : List Nat) : Nat → Bool
  | 0 => false
  | i + 1 => riseTo ls i || (decide (1 ≤ i) && riseB ls i)
theorem riseTo_any {ls : List Nat} : ∀ n, riseTo ls n = true ↔ ∃ i, 1 ≤ i ∧ i < n ∧ riseB ls i = true
  | 0 => by simp [riseTo]
  | n + 1 => by
    have ih := riseTo_any (ls := ls) n
    unfold riseTo
    rw [Bool.or_eq_true, Bool.and_eq_true, decide_eq_true_eq, ih]
    constructor
    · rintro (⟨i, a, b, c⟩ | ⟨a, b⟩)
      · exact ⟨i, a, by omega, c⟩
      · exact ⟨n, a, by omega, b⟩
    · rintro ⟨i, a, b, c⟩
      by_cases e : i = n
      · subst e; exact .inr ⟨a, c⟩
      · exact .inl ⟨i, a, by omega, c⟩
theorem l28_loop {ls : List Nat} {n : Nat} (h24 : n ≤ 24) : ∀ d i m, i + d = n → d < m → 1 ≤ i → z28 (Int.ofNat n) n ls m (riseTo ls i) (Int.ofNat i) = some (riseTo ls n, Int.ofNat n, false)
  | 0, i, m, h1, h2, h3 => by
    obtain ⟨m, rfl⟩ : ∃ k, m = k + 1 := ⟨m - 1, by omega⟩
    obtain rfl : i = n := by omega
    rw [zcf]; unfold z3j; rw [ltN_f (Nat.le_refl _)]; rfl
  | d + 1, i, m, h1, h2, h3 => by
    obtain ⟨m, rfl⟩ : ∃ k, m = k + 1 := ⟨m - 1, by omega⟩
    have hi : i < n := by omega
    have e1 : subI .i64 (Int.ofNat i) 1 = Int.ofNat (i - 1) := subN1 (by omega) (by omega)
    have ih := l28_loop (ls := ls) h24 d (i + 1) m (by omega) (by omega) (by omega)
    have eR : riseTo ls (i + 1) = (riseTo ls i || riseB ls i) := by
      show (riseTo ls i || (decide (1 ≤ i) && riseB ls i)) = _
      rw [decide_eq_true h3, Bool.true_and]
    rw [eR] at ih
    unfold riseB at ih
    rw [zcf]; unfold z3j
    rw [ltN_t hi, e1, okIx_t hi, okIx_t (show i - 1 < n by omega), ix1, ix1, addI1 (by omega)]
    simp only [br_true, grd_true, gF]
    cases h1 : riseTo ls i with
    | true => rw [h1] at ih; exact ih
    | false =>
      rw [h1] at ih
      cases h2 : fcmp .leq .f32 (ls.getD (i - 1) 0) 0 with
      | true => rw [h2, Bool.and_true] at ih; exact ih
      | false => rw [h2, Bool.and_false] at ih; exact ih
def zeroOk (as ls : List Nat) (i : Nat) : Prop :=
  finB (zeroW as ls i) = true ∧ finW .f32 (atW as ls (wrapV (zeroW as ls i))) = true ∧ (vl .f32 (atW as ls (wrapV (zeroW as ls i)))).natAbs ≤ 2 ^ 135 ∧ vl .f32 (as.getD 0 0) ≤ vl .f32 (zeroW as ls i) ∧ vl .f32 (zeroW as ls i) ≤ vl .f32 (as.getD (as.length - 1) 0)
def zA (u d a b : Int) : Nat := fop .add .f32 (x32 u) (fop .mul .f32 (fop .sub .f32 (x32 (u + d)) (x32 u)) (fop .quo .f32 (l8 a) (fop .sub .f32 (l8 a) (l8 b))))
theorem x32_vl (k : Fin 33) : vl .f32 (x32 ((k : Int) - 16)) = ((k : Int) - 16) * 2 ^ 144 := by revert k; decide +kernel
theorem gap_grid (u : Fin 28) (d : Fin 4) : fop .sub .f32 (x32 ((u : Int) - 16 + ((d : Int) + 1))) (x32 ((u : Int) - 16)) = x32 ((d : Int) + 1) := by revert u d; decide +kernel
theorem d_grid (d : Fin 4) : finW .f32 (x32 ((d : Int) + 1)) = true ∧ nn .f32 (x32 ((d : Int) + 1)) = false ∧ mg .f32 (x32 ((d : Int) + 1)) = (d.val + 1) * 2 ^ 144 := by revert d; decide +kernel
def zG (d a b : Int) : Nat := fop .mul .f32 (x32 d) (fop .quo .f32 (l8 a) (fop .sub .f32 (l8 a) (l8 b)))
theorem g_grid (d : Fin 4) (a : Fin 7) (b : Fin 10) : finW .f32 (zG ((d : Int) + 1) ((a : Int) - 6) ((b : Int) + 1)) = true ∧ 0 ≤ vl .f32 (zG ((d : Int) + 1) ((a : Int) - 6) ((b : Int) + 1)) ∧ vl .f32 (zG ((d : Int) + 1) ((a : Int) - 6) ((b : Int) + 1)) + 2 ^ 140 ≤ ((d : Int) + 1) * 2 ^ 144 ∧
    (((a : Int) - 6) * ((d : Int) + 1) * 2 ^ 146 + 4 * (((b : Int) + 1) - ((a : Int) - 6)) * vl .f32 (zG ((d : Int) + 1) ((a : Int) - 6) ((b : Int) + 1))).natAbs ≤ 2 ^ 130 := by revert d a b; decide +kernel
theorem w_grid (a : Fin 7) (b : Fin 10) : finW .f32 (fop .sub .f32 (l8 ((b : Int) + 1)) (l8 ((a : Int) - 6))) = true ∧ vl .f32 (fop .sub .f32 (l8 ((b : Int) + 1)) (l8 ((a : Int) - 6))) = (((b : Int) + 1) - ((a : Int) - 6)) * 2 ^ 146 := by revert a b; decide +kernel
theorem a_grid (a : Fin 7) : finW .f32 (l8 ((a : Int) - 6)) = true ∧ vl .f32 (l8 ((a : Int) - 6)) = ((a : Int) - 6) * 2 ^ 146 := by revert a; decide +kernel
noncomputable def zT (u d a b : Int) : Nat := fop .quo .f32 (fop .sub .f32 (wrapV (zA u d a b)) (x32 u)) (fop .sub .f32 (x32 (u + d)) (x32 u))
theorem zero_lin {a c d m pr t y g : Int} (hd : 1 ≤ d ∧ d ≤ 4) (hc : 1 ≤ c ∧ c ≤ 16) (h1 : (m - (a * 2 ^ 146 + pr)).natAbs ≤ 2 ^ 130) (h2 : (pr * 8 - t * c).natAbs ≤ 2 ^ 132) (h3 : (t * d - y * 32).natAbs ≤ 2 ^ 129 * d.natAbs) (h4 : (y - g).natAbs ≤ 2 ^ 127) (h5 : (a * d * 2 ^ 146 + 4 * c * g).natAbs ≤ 2 ^ 130) : m.natAbs ≤ 2 ^ 135 := by
  have e1 : d = 1 ∨ d = 2 ∨ d = 3 ∨ d = 4 := by omega
  have c16 : c.natAbs ≤ 16 := by omega
  have k3 : (t * c * d - y * c * 32).natAbs ≤ 2 ^ 129 * d.natAbs * 16 := by
    rw [show t * c * d - y * c * 32 = (t * d - y * 32) * c by rw [Int.sub_mul, Int.mul_right_comm t c d, Int.mul_right_comm y c 32], Int.natAbs_mul]
    exact Nat.mul_le_mul h3 c16
  have k4 : (y * c - g * c).natAbs ≤ 2 ^ 127 * 16 := by
    rw [← Int.sub_mul, Int.natAbs_mul]
    exact Nat.mul_le_mul h4 c16
  rw [show 4 * c * g = 4 * (g * c) by rw [Int.mul_assoc, Int.mul_comm c g]] at h5
  clear h3 h4 hc hd c16
  generalize t * c = tc at *
  generalize y * c = yc at *
  generalize g * c = gc at *
  rcases e1 with rfl | rfl | rfl | rfl <;> omega
theorem zero_grid {u d a b : Int} (hu : -16 ≤ u ∧ u ≤ 11) (hd : 1 ≤ d ∧ d ≤ 4) (ha : -6 ≤ a ∧ a ≤ 0) (hb : 1 ≤ b ∧ b ≤ 10) :
    finB (zA u d a b) = true ∧ fcmp .gtr .f32 (x32 (u + d)) (wrapV (zA u d a b)) = true ∧ finW .f32 (wrapV (zA u d a b)) = true ∧ vl .f32 (x32 u) ≤ vl .f32 (wrapV (zA u d a b)) ∧ vl .f32 (x32 u) ≤ vl .f32 (zA u d a b) ∧ vl .f32 (zA u d a b) ≤ vl .f32 (x32 (u + d)) ∧
    fcmp .neq .f32 (x32 u) (x32 (u + d)) = true ∧ finW .f32 (mixed (l8 a) (l8 b) (zT u d a b)) = true ∧ (vl .f32 (mixed (l8 a) (l8 b) (zT u d a b))).natAbs ≤ 2 ^ 135 := by
  have i1 : (((u + 16).toNat : Nat) : Int) - 16 = u := by omega
  have i2 : (((d - 1).toNat : Nat) : Int) + 1 = d := by omega
  have i3 : (((a + 6).toNat : Nat) : Int) - 6 = a := by omega
  have i4 : (((b - 1).toNat : Nat) : Int) + 1 = b := by omega
  have i5 : (((u + d + 16).toNat : Nat) : Int) - 16 = u + d := by omega
  have vp := x32_vl ⟨(u + 16).toNat, by omega⟩
  have vq := x32_vl ⟨(u + d + 16).toNat, by omega⟩
  have fp := x32_fin ⟨(u + 48).toNat, by omega⟩
  have fq := x32_fin ⟨(u + d + 48).toNat, by omega⟩
  have eg := gap_grid ⟨(u + 16).toNat, by omega⟩ ⟨(d - 1).toNat, by omega⟩
  obtain ⟨fd, nd, md⟩ := d_grid ⟨(d - 1).toNat, by omega⟩
  obtain ⟨fg, g0, g1, g2⟩ := g_grid ⟨(d - 1).toNat, by omega⟩ ⟨(a + 6).toNat, by omega⟩ ⟨(b - 1).toNat, by omega⟩
  obtain ⟨fw, vw⟩ := w_grid ⟨(a + 6).toNat, by omega⟩ ⟨(b - 1).toNat, by omega⟩
  obtain ⟨fa, va⟩ := a_grid ⟨(a + 6).toNat, by omega⟩
  simp only [i1, i2, i3, i4, i5] at vp vq eg fd nd md fg g0 g1 g2 fw vw fa va
  simp only at fp fq
  rw [show (((u + 48).toNat : Nat) : Int) - 48 = u by omega] at fp
  rw [show (((u + d + 48).toNat : Nat) : Int) - 48 = u + d by omega] at fq
  have bin : FloatKind.f32.format.binade = 8388608 := by decide
  have hlp : lp .f32 + ((149 : Nat) : Int) = 0 := by decide
  have eok : ∀ e, e ≤ 250 → (e + 2) * FloatKind.f32.format.binade ≤ FloatKind.f32.format.infRung := fun e h => Nat.le_trans (Nat.mul_le_mul_right _ (show e + 2 ≤ 252 by omega)) (by decide)
  have eA : zA u d a b = fop .add .f32 (x32 u) (zG d a b) := by unfold zA zG; rw [eg]
  have b1 : (u + d) * 2 ^ 144 = u * 2 ^ 144 + d * 2 ^ 144 := Int.add_mul _ _ _
  obtain ⟨zf, zc⟩ := sum_close (e := 126) fp fg (eok _ (by omega)) (by rw [bin, vp]; omega)
  have zl := vl_le.2 (sum_ge (a := x32 u) fp fg fp (by omega))
  have zh := vl_le.2 (sum_le (a := x32 (u + d)) fp fg fq (by omega))
  rw [← eA] at zf zc zl zh
  obtain ⟨wf, wv⟩ := wrap_in zf (by omega) (by omega)
  obtain ⟨yf, yc⟩ := diff_close (e := 124) wf fp (eok _ (by omega)) (by rw [bin, wv, vp]; omega)
  have myl : (vl .f32 (fop .sub .f32 (wrapV (zA u d a b)) (x32 u))).natAbs = mg .f32 (fop .sub .f32 (wrapV (zA u d a b)) (x32 u)) := by unfold vl; rw [sg_abs]
  have md' : mg .f32 (x32 d) = d.natAbs * 2 ^ 144 := by rw [md]; congr 1; omega
  have my : mg .f32 (fop .sub .f32 (wrapV (zA u d a b)) (x32 u)) ≤ d.natAbs * 2 ^ 144 := by rw [← myl]; omega
  obtain ⟨tf, tn, t1, t2⟩ := quo_close (N := 149) (e := 128) yf fd hlp (by rw [md']; omega) (eok _ (by omega)) (by
    rw [bin, md']
    generalize mg .f32 (fop .sub .f32 (wrapV (zA u d a b)) (x32 u)) = Y at my ⊢
    omega)
  rw [nd, Bool.xor_false] at tn
  have tc : (vl .f32 (zT u d a b) * d - vl .f32 (fop .sub .f32 (wrapV (zA u d a b)) (x32 u)) * 32).natAbs ≤ 2 ^ 129 * d.natAbs := by
    unfold zT
    rw [eg]
    unfold vl
    rw [tn]
    have hdn : d = (d.natAbs : Int) := by omega
    have hd1 : d.natAbs = 1 ∨ d.natAbs = 2 ∨ d.natAbs = 3 ∨ d.natAbs = 4 := by omega
    rw [md'] at t1 t2
    generalize mg .f32 (fop .quo .f32 (fop .sub .f32 (wrapV (zA u d a b)) (x32 u)) (x32 d)) = R at t1 t2 ⊢
    generalize mg .f32 (fop .sub .f32 (wrapV (zA u d a b)) (x32 u)) = Y at t1 t2 ⊢
    generalize nn .f32 (fop .sub .f32 (wrapV (zA u d a b)) (x32 u)) = sgn
    rw [hdn]
    generalize d.natAbs = D at t1 t2 hd1 ⊢
    rcases hd1 with rfl | rfl | rfl | rfl <;> cases sgn <;> simp only [sg, Bool.false_eq_true, if_false, if_true, Int.natAbs_natCast] <;> omega
  have tb : (vl .f32 (zT u d a b)).natAbs ≤ 2 ^ 150 := by
    have hd1 : d = 1 ∨ d = 2 ∨ d = 3 ∨ d = 4 := by omega
    rw [← myl] at my
    rcases hd1 with rfl | rfl | rfl | rfl <;> omega
  have tf' : finW .f32 (zT u d a b) = true := by unfold zT; rw [eg]; exact tf
  have cb : (vl .f32 (zT u d a b) * vl .f32 (fop .sub .f32 (l8 b) (l8 a))).natAbs ≤ 2 ^ 150 * (16 * 2 ^ 146) := by
    rw [Int.natAbs_mul]
    exact Nat.mul_le_mul tb (by rw [vw]; omega)
  obtain ⟨pf, pc⟩ := prod_close (s := 149) (e := 129) hlp tf' fw (eok _ (by omega)) (by rw [bin]; exact Nat.lt_of_le_of_lt cb (by decide +kernel))
  have pc' : (vl .f32 (fop .mul .f32 (zT u d a b) (fop .sub .f32 (l8 b) (l8 a))) * 8 - vl .f32 (zT u d a b) * (b - a)).natAbs ≤ 2 ^ 132 := by
    rw [vw, ← Int.mul_assoc] at pc
    generalize vl .f32 (zT u d a b) * (b - a) = Q at pc ⊢
    generalize vl .f32 (fop .mul .f32 (zT u d a b) (fop .sub .f32 (l8 b) (l8 a))) = P at pc ⊢
    clear cb tc
    omega
  have qb : (vl .f32 (zT u d a b) * (b - a)).natAbs ≤ 2 ^ 150 * 16 := by
    rw [Int.natAbs_mul]
    exact Nat.mul_le_mul tb (by omega)
  have pb : (vl .f32 (fop .mul .f32 (zT u d a b) (fop .sub .f32 (l8 b) (l8 a)))).natAbs ≤ 2 ^ 152 := by
    generalize vl .f32 (zT u d a b) * (b - a) = Q at pc' qb
    clear cb tc pc
    omega
  obtain ⟨mf, mc⟩ := sum_close (e := 130) fa pf (eok _ (by omega)) (by rw [bin, va]; clear cb tc pc pc' qb; omega)
  rw [va] at mc
  have yc' : (vl .f32 (fop .sub .f32 (wrapV (zA u d a b)) (x32 u)) - vl .f32 (zG d a b)).natAbs ≤ 2 ^ 127 := by
    rw [wv] at yc
    clear cb tc pc pc' qb mc
    omega
  refine ⟨by rw [finB_eq]; exact zf, ?_, wf, by rw [wv]; exact zl, zl, zh, ?_, mf, ?_⟩
  · rw [(fcmp_vl fq wf).2.2.2.2.1, wv, vq]
    clear cb tc pc pc' qb mc
    exact decide_eq_true (by omega)
  · rw [(fcmp_vl fp fq).2.1, vp, vq]
    clear cb tc pc pc' qb mc
    simp only [Bool.not_eq_true', decide_eq_false_iff_not]
    omega
  · exact zero_lin (c := b - a) hd (by omega) mc pc' tc yc' g2
theorem x32_mono {a b : Int} (h1 : -16 ≤ a) (h2 : a ≤ b) (h3 : b ≤ 16) : vl .f32 (x32 a) ≤ vl .f32 (x32 b) := by
  have g1 := x32_vl ⟨(a + 16).toNat, by omega⟩
  have g2 := x32_vl ⟨(b + 16).toNat, by omega⟩
  simp only at g1 g2
  rw [show (((a + 16).toNat : Int)) - 16 = a by omega] at g1
  rw [show (((b + 16).toNat : Int)) - 16 = b by omega] at g2
  rw [g1, g2]
  exact Int.mul_le_mul_of_nonneg_right h2 (by decide)
theorem l8_sign (v : Fin 17) : fcmp .gtr .f32 (l8 ((v : Int) - 6)) 0 = decide ((0 : Int) < (v : Int) - 6) ∧ fcmp .leq .f32 (l8 ((v : Int) - 6)) 0 = decide ((v : Int) - 6 ≤ 0) := by revert v; decide +kernel
theorem grid_zero {u : Int} {us vs : List Int} (hu1 : -16 ≤ u) (hu2 : u ≤ -8) (hc : climb u us) (hn1 : 2 ≤ us.length) (hn2 : us.length ≤ 6) (hv : vs.length = us.length) (hvs : ∀ v ∈ vs, -6 ≤ v ∧ v ≤ 10) {i : Nat} (h1 : 1 ≤ i) (hi : i < us.length) (hr : riseB (vs.map l8) i = true) :
    zeroOk (us.map x32) (vs.map l8) i := by
  have hrs := drawn_rise ⟨hu1, hu2⟩ hc hn2
  have bl : ∀ j, j < us.length → -6 ≤ vs.getD j 0 ∧ vs.getD j 0 ≤ 10 := fun j hj => hvs _ (getD_mem (xs := vs) (j := j) (by omega))
  have gl : ∀ j, j < us.length → (vs.map l8).getD j 0 = l8 (vs.getD j 0) := fun j hj => map_getD l8 vs (by omega)
  have ga : ∀ j, j < us.length → (us.map x32).getD j 0 = x32 (us.getD j 0) := fun j hj => map_getD x32 us hj
  obtain ⟨k, k1, k2, k3⟩ := climb_next hc (i - 1) (by omega)
  rw [show i - 1 + 1 = i by omega] at k3
  have g0 := climb_get hc (i - 1) (by omega)
  have sg1 := l8_sign ⟨(vs.getD i 0 + 6).toNat, by have := bl i hi; omega⟩
  have sg2 := l8_sign ⟨(vs.getD (i - 1) 0 + 6).toNat, by have := bl (i - 1) (by omega); omega⟩
  simp only at sg1 sg2
  have bi := bl i hi
  have bi' := bl (i - 1) (by omega)
  rw [show (((vs.getD i 0 + 6).toNat : Int)) - 6 = vs.getD i 0 by omega] at sg1
  rw [show (((vs.getD (i - 1) 0 + 6).toNat : Int)) - 6 = vs.getD (i - 1) 0 by omega] at sg2
  unfold riseB at hr
  rw [gl i hi, gl _ (by omega), sg1.1, sg2.2, Bool.and_eq_true, decide_eq_true_eq, decide_eq_true_eq] at hr
  have hz := zero_grid (u := us.getD (i - 1) 0) (d := k) (a := vs.getD (i - 1) 0) (b := vs.getD i 0) (by omega) ⟨k1, k2⟩ (by omega) (by omega)
  have eW : zeroW (us.map x32) (vs.map l8) i = zA (us.getD (i - 1) 0) k (vs.getD (i - 1) 0) (vs.getD i 0) := by
    unfold zeroW zA
    rw [gl i hi, gl _ (by omega), ga i hi, ga _ (by omega), k3]
  obtain ⟨z1, z2, z3, z4, z5, z6, z7, z8, z9⟩ := hz
  unfold zT at z8 z9
  have r0 := hrs.1 0 (by omega)
  have ri := hrs.1 i hi
  have ri' := hrs.1 (i - 1) (by omega)
  have rn := hrs.1 (us.length - 1) (by omega)
  have mono : ∀ l, l < us.length → ∀ l', l ≤ l' → l' < us.length → us.getD l 0 ≤ us.getD l' 0 := fun l hl l' h hl' => by
    rcases Nat.lt_or_ge l l' with g | g
    · have := hrs.2 l l' g hl'; omega
    · obtain rfl : l = l' := by omega
      exact Int.le_refl _
  have hat : atW (us.map x32) (vs.map l8) (wrapV (zeroW (us.map x32) (vs.map l8) i)) = mixed (l8 (vs.getD (i - 1) 0)) (l8 (vs.getD i 0)) (fop .quo .f32 (fop .sub .f32 (wrapV (zA (us.getD (i - 1) 0) k (vs.getD (i - 1) 0) (vs.getD i 0))) (x32 (us.getD (i - 1) 0))) (fop .sub .f32 (x32 (us.getD (i - 1) 0 + k)) (x32 (us.getD (i - 1) 0)))) := by
    rw [eW]
    unfold atW
    rw [findA_eq (us.map x32) _ i (by rw [List.length_map]; omega) (fun l hl => by
      unfold aboveB
      rw [ga l (by omega)]
      have hfl : finW .f32 (x32 (us.getD l 0)) = true := by
        have := hrs.1 l (by omega)
        have g := x32_fin ⟨(us.getD l 0 + 48).toNat, by omega⟩
        simp only at g
        rw [show (((us.getD l 0 + 48).toNat : Int)) - 48 = us.getD l 0 by omega] at g
        exact g
      have hm := x32_mono (hrs.1 l (by omega)).1 (mono l (by omega) (i - 1) (by omega) (by omega)) ri'.2
      rw [(fcmp_vl hfl z3).2.2.2.2.1]
      exact decide_eq_false (by omega)) (fun _ => by unfold aboveB; rw [ga i hi, k3]; exact z2)]
    have ep : pairR (us.map x32) i = (i - 1, i, x32 (us.getD (i - 1) 0), x32 (us.getD (i - 1) 0 + k)) := by
      unfold pairR
      rw [if_neg (by omega), List.length_map, if_neg (by omega), ga i hi, ga _ (by omega), k3]
    rw [ep]
    simp only
    rw [if_pos z7, gl i hi, gl _ (by omega)]
  refine ⟨by rw [eW]; exact z1, by rw [hat]; exact z8, by rw [hat]; exact z9, ?_, ?_⟩
  · rw [eW, ga 0 (by omega)]
    exact Int.le_trans (x32_mono r0.1 (mono 0 (by omega) (i - 1) (by omega) (by omega)) ri'.2) z5
  · rw [eW, List.length_map, ga _ (by omega)]
    refine Int.le_trans z6 ?_
    rw [← k3]
    exact x32_mono ri.1 (mono i hi (us.length - 1) (by omega) (by omega)) rn.2
def upW (x : Nat) : Nat := fcvV .f32 .f64 x
def fxx (ls : List Nat) (j : Nat) : Nat := fop .mul .f64 (upW (ls.getD j 0)) (upW (ls.getD j 0))
def fyy (ds : List Nat) (j : Nat) : Nat := upW (ds.getD j 0)
def fitA (ls : List Nat) : Nat → Nat
  | 0 => 0
  | i + 1 => fop .add .f64 (fitA ls i) (fxx ls i)
def fitB (ds : List Nat) : Nat → Nat
  | 0 => 0
  | i + 1 => fop .add .f64 (fitB ds i) (fyy ds i)
def fitC (ls : List Nat) : Nat → Nat
  | 0 => 0
  | i + 1 => fop .add .f64 (fitC ls i) (fop .mul .f64 (fxx ls i) (fxx ls i))
def fitD (ls ds : List Nat) : Nat → Nat
  | 0 => 0
  | i + 1 => fop .add .f64 (fitD ls ds i) (fop .mul .f64 (fxx ls i) (fyy ds i))
def fitE (ls : List Nat) (n : Nat) : Nat := fop .sub .f64 (fop .mul .f64 (fOI .f64 (Int.ofNat n)) (fitC ls n)) (fop .mul .f64 (fitA ls n) (fitA ls n))
def fitS (ls ds : List Nat) (n : Nat) : Nat := fop .quo .f64 (fop .sub .f64 (fop .mul .f64 (fOI .f64 (Int.ofNat n)) (fitD ls ds n)) (fop .mul .f64 (fitA ls n) (fitB ds n))) (fitE ls n)
def fitT (ls ds : List Nat) (n : Nat) : Nat := fop .quo .f64 (fop .sub .f64 (fitB ds n) (fop .mul .f64 (fitS ls ds n) (fitA ls n))) (fOI .f64 (Int.ofNat n))
theorem fit_loop {ls ds : List Nat} {n : Nat} (h24 : n ≤ 24) : z0v n (Int.ofNat n) n ls ds big 0 0 0 0 0 = some (fitA ls n, fitB ds n, fitC ls n, fitD ls ds n, Int.ofNat n, false) := by
  have := runs (L := fun m i => z0v n (Int.ofNat n) n ls ds m (fitA ls i.toNat) (fitB ds i.toNat) (fitC ls i.toNat) (fitD ls ds i.toNat) i) (len := n) (e := (fitA ls n, fitB ds n, fitC ls n, fitD ls ds n, Int.ofNat n, false))
    (fun m i hi => by
      show z0v _ _ _ _ _ (m + 1) (fitA ls i) (fitB ds i) (fitC ls i) (fitD ls ds i) (Int.ofNat i) = z0v _ _ _ _ _ m (fitA ls (i + 1)) (fitB ds (i + 1)) (fitC ls (i + 1)) (fitD ls ds (i + 1)) (Int.ofNat (i + 1))
      rw [zca]; unfold z3d
      rw [ltN_t hi, okIx_t hi, ix1, addI1 (by omega)]
      rfl)
    (fun m => by
      show z0v _ _ _ _ _ (m + 1) (fitA ls n) (fitB ds n) (fitC ls n) (fitD ls ds n) (Int.ofNat n) = _
      rw [zca]; unfold z3d; rw [ltN_f (Nat.le_refl _)]; rfl) (by omega)
  exact this
theorem FitDrags_ex {as ls ds : List Nat} (hv : validProfB as ls ds = true) (hok : fcmp .gtr .f64 (fitE ls as.length) 0 = true → fcvB .f64 .f32 (fitT ls ds as.length) = true ∧ fcvB .f64 .f32 (fitS ls ds as.length) = true) :
    ∃ r : Nat × Nat × Bool, z4s as.length as ls.length ls ds.length ds 3204448256 1056964608 = some r ∧ (r.2.2 = true → finB r.1 = true ∧ finB r.2.1 = true) := by
  obtain ⟨c1, c2, c3, c4⟩ := validProfB_len hv
  obtain ⟨p1, q1⟩ := z38 (impl_ValidProfile_eq (as := as) (ls := ls) (ds := ds) (by omega) (by omega))
  obtain ⟨g1, _, _, g2, g3, g4, g5, g6, g7⟩ := zlz rfl (impl_cut_loop hv)
  obtain ⟨k0, k1, k2, k3, k4, k5, k6⟩ := zmq (show z5s as.length as ls.length ls ds.length ds 3204448256 1056964608 = some (as.length, as.length, as.length, as, ls, ds) by
    unfold z5s zc4
    simp only [g1, g2, g3, g4, g5, g6, g7, grd_true])
  obtain ⟨f1, f2, f3, f4, f5, _⟩ := zhs rfl (fit_loop (ls := ls) (ds := ds) c2)
  have hE : fop .sub .f64 (fop .mul .f64 (fOI .f64 (Int.ofNat as.length)) (fitC ls as.length)) (fop .mul .f64 (fitA ls as.length) (fitA ls as.length)) = fitE ls as.length := rfl
  have hS : fop .quo .f64 (fop .sub .f64 (fop .mul .f64 (fOI .f64 (Int.ofNat as.length)) (fitD ls ds as.length)) (fop .mul .f64 (fitA ls as.length) (fitB ds as.length))) (fitE ls as.length) = fitS ls ds as.length := rfl
  have hT : fop .quo .f64 (fop .sub .f64 (fitB ds as.length) (fop .mul .f64 (fitS ls ds as.length) (fitA ls as.length))) (fOI .f64 (Int.ofNat as.length)) = fitT ls ds as.length := rfl
  obtain ⟨t0, t1, t2, t3⟩ := zj8 (impl_checkedTwo_eq (fcvV .f64 .f32 (fitT ls ds as.length)) (fcvV .f64 .f32 (fitS ls ds as.length)))
  unfold z4s z78
  simp only [pF_all, p1, q1, hv, k0, k1, k2, k3, k4, k5, k6, f1, f2, f3, f4, f5, hE, hS, hT, t0, t1, t2, t3, grd_true, bnot_true, br_false]
  cases hg : fcmp .gtr .f64 (fitE ls as.length) 0 with
  | false => exact ⟨(0, 0, false), rfl, fun h => by cases h⟩
  | true =>
    obtain ⟨o1, o2⟩ := hok hg
    simp only [o1, o2, bnot_true, br_false, grd_true]
    by_cases hf : (finB (fcvV .f64 .f32 (fitT ls ds as.length)) && finB (fcvV .f64 .f32 (fitS ls ds as.length))) = true
    · rw [if_pos hf]
      rw [Bool.and_eq_true] at hf
      exact ⟨_, rfl, fun _ => hf⟩
    · rw [if_neg hf]
      exact ⟨(0, 0, false), rfl, fun h => by cases h⟩
theorem l8_gi (v : Fin 17) : finW .f64 (upW (l8 ((v : Int) - 6))) = true ∧ vl .f64 (upW (l8 ((v : Int) - 6))) = ((v : Int) - 6) * ((2 ^ (1074 - 3) : Nat) : Int) := by revert v; decide +kernel
theorem d32_gi (w : Fin 9) : finW .f64 (upW (x32 (w : Int))) = true ∧ vl .f64 (upW (x32 (w : Int))) = (w : Int) * ((2 ^ (1074 - 5) : Nat) : Int) := by revert w; decide +kernel
theorem n_gi (n : Fin 7) : finW .f64 (fOI .f64 (Int.ofNat n.val)) = true ∧ vl .f64 (fOI .f64 (Int.ofNat n.val)) = (n.val : Int) * ((2 ^ (1074 - 0) : Nat) : Int) := by revert n; decide +kernel
theorem gi_mg {k : FloatKind} {N s x : Nat} {v : Int} (h : Gi k N s x v) : Go.Rf.mg k x = v.natAbs * 2 ^ (N - s) := by
  have := congrArg Int.natAbs h.2
  rw [Int.natAbs_mul, Int.natAbs_natCast] at this
  rw [← this]
  unfold vl
  rw [sg_nat]
set_option exponentiation.threshold 2000 in
theorem grid_fit {vs ws : List Int} {n : Nat} (hn1 : 2 ≤ n) (hn2 : n ≤ 6) (hv : vs.length = n) (hw : ws.length = n) (hvs : ∀ v ∈ vs, -6 ≤ v ∧ v ≤ 10) (hws : ∀ w ∈ ws, 0 ≤ w ∧ w ≤ 8) (hg : fcmp .gtr .f64 (fitE (vs.map l8) n) 0 = true) :
    fcvB .f64 .f32 (fitT (vs.map l8) (ws.map x32) n) = true ∧ fcvB .f64 .f32 (fitS (vs.map l8) (ws.map x32) n) = true := by
  have hbin : FloatKind.f64.format.binade = 4503599627370496 := by decide
  have hlp : lp .f64 + ((1074 : Nat) : Int) = 0 := by decide
  have sok : ∀ s, s ≤ 12 → (1074 - s + 2) * FloatKind.f64.format.binade ≤ FloatKind.f64.format.infRung := fun s _ => Nat.le_trans (Nat.mul_le_mul_right _ (show 1074 - s + 2 ≤ 1076 by omega)) (by decide +kernel)
  have bl : ∀ j, j < n → -6 ≤ vs.getD j 0 ∧ vs.getD j 0 ≤ 10 := fun j hj => hvs _ (getD_mem (xs := vs) (j := j) (by omega))
  have bd : ∀ j, j < n → 0 ≤ ws.getD j 0 ∧ ws.getD j 0 ≤ 8 := fun j hj => hws _ (getD_mem (xs := ws) (j := j) (by omega))
  have gx : ∀ j, j < n → Gi .f64 1074 3 (upW ((vs.map l8).getD j 0)) (vs.getD j 0) := fun j hj => by
    rw [map_getD l8 vs (by omega)]
    have := bl j hj
    have g := l8_gi ⟨(vs.getD j 0 + 6).toNat, by omega⟩
    simp only at g
    rw [show (((vs.getD j 0 + 6).toNat : Int)) - 6 = vs.getD j 0 by omega] at g
    exact g
  have gy : ∀ j, j < n → Gi .f64 1074 5 (fyy (ws.map x32) j) (ws.getD j 0) := fun j hj => by
    unfold fyy
    rw [map_getD x32 ws (by omega)]
    have := bd j hj
    have g := d32_gi ⟨(ws.getD j 0).toNat, by omega⟩
    simp only at g
    rw [show (((ws.getD j 0).toNat : Int)) = ws.getD j 0 by omega] at g
    exact g
  have sq : ∀ j, j < n → 0 ≤ vs.getD j 0 * vs.getD j 0 ∧ vs.getD j 0 * vs.getD j 0 ≤ 100 := fun j hj => by
    have := bl j hj
    refine ⟨by rcases Int.le_total 0 (vs.getD j 0) with g | g; exact Int.mul_nonneg g g; exact Int.mul_nonneg_of_nonpos_of_nonpos g g, ?_⟩
    have h1 : (vs.getD j 0 * vs.getD j 0).natAbs ≤ 100 := by rw [Int.natAbs_mul]; exact Nat.le_trans (Nat.mul_le_mul (show (vs.getD j 0).natAbs ≤ 10 by omega) (show (vs.getD j 0).natAbs ≤ 10 by omega)) (by decide)
    omega
  have gq : ∀ j, j < n → Gi .f64 1074 6 (fxx (vs.map l8) j) (vs.getD j 0 * vs.getD j 0) := fun j hj => mul_ex hlp (by omega) (sok (3 + 3) (by omega)) (gx j hj) (gx j hj) (by rw [hbin]; have := sq j hj; omega)
  have gq2 : ∀ j, j < n → ∃ c : Int, 0 ≤ c ∧ c ≤ 10000 ∧ Gi .f64 1074 12 (fop .mul .f64 (fxx (vs.map l8) j) (fxx (vs.map l8) j)) c := fun j hj => by
    have := sq j hj
    have hb : (vs.getD j 0 * vs.getD j 0 * (vs.getD j 0 * vs.getD j 0)).natAbs ≤ 10000 := by rw [Int.natAbs_mul]; exact Nat.le_trans (Nat.mul_le_mul (show (vs.getD j 0 * vs.getD j 0).natAbs ≤ 100 by omega) (show (vs.getD j 0 * vs.getD j 0).natAbs ≤ 100 by omega)) (by decide)
    have h0 := Int.mul_nonneg this.1 this.1
    exact ⟨_, h0, by omega, mul_ex hlp (by omega) (sok (6 + 6) (by omega)) (gq j hj) (gq j hj) (by rw [hbin]; omega)⟩
  have gxy : ∀ j, j < n → ∃ c : Int, 0 ≤ c ∧ c ≤ 800 ∧ Gi .f64 1074 11 (fop .mul .f64 (fxx (vs.map l8) j) (fyy (ws.map x32) j)) c := fun j hj => by
    have := sq j hj
    have hw' := bd j hj
    have hb : (vs.getD j 0 * vs.getD j 0 * ws.getD j 0).natAbs ≤ 800 := by rw [Int.natAbs_mul]; exact Nat.le_trans (Nat.mul_le_mul (show (vs.getD j 0 * vs.getD j 0).natAbs ≤ 100 by omega) (show (ws.getD j 0).natAbs ≤ 8 by omega)) (by decide)
    have h0 := Int.mul_nonneg this.1 hw'.1
    exact ⟨_, h0, by omega, mul_ex hlp (by omega) (sok (6 + 5) (by omega)) (gq j hj) (gy j hj) (by rw [hbin]; omega)⟩
  have z64 : finW .f64 0 = true ∧ vl .f64 0 = 0 := by decide +kernel
  have sA : ∀ i, i ≤ n → ∃ c : Int, 0 ≤ c ∧ c ≤ 100 * i ∧ Gi .f64 1074 6 (fitA (vs.map l8) i) c := by
    intro i
    induction i with
    | zero => intro _; exact ⟨0, by omega, by omega, Gi.sum0 .f64 z64⟩
    | succ i ih =>
      intro hi
      obtain ⟨c, c0, c1, c2⟩ := ih (by omega)
      have := sq i (by omega)
      exact ⟨_, by omega, by omega, add_ex (sok 6 (by omega)) c2 (gq i (by omega)) (by rw [hbin]; omega)⟩
  have sB : ∀ i, i ≤ n → ∃ c : Int, 0 ≤ c ∧ c ≤ 8 * i ∧ Gi .f64 1074 5 (fitB (ws.map x32) i) c := by
    intro i
    induction i with
    | zero => intro _; exact ⟨0, by omega, by omega, Gi.sum0 .f64 z64⟩
    | succ i ih =>
      intro hi
      obtain ⟨c, c0, c1, c2⟩ := ih (by omega)
      have := bd i (by omega)
      exact ⟨_, by omega, by omega, add_ex (sok 5 (by omega)) c2 (gy i (by omega)) (by rw [hbin]; omega)⟩
  have sC : ∀ i, i ≤ n → ∃ c : Int, 0 ≤ c ∧ c ≤ 10000 * i ∧ Gi .f64 1074 12 (fitC (vs.map l8) i) c := by
    intro i
    induction i with
    | zero => intro _; exact ⟨0, by omega, by omega, Gi.sum0 .f64 z64⟩
    | succ i ih =>
      intro hi
      obtain ⟨c, c0, c1, c2⟩ := ih (by omega)
      obtain ⟨e, e0, e1, e2⟩ := gq2 i (by omega)
      exact ⟨_, by omega, by omega, add_ex (sok 12 (by omega)) c2 e2 (by rw [hbin]; omega)⟩
  have sD : ∀ i, i ≤ n → ∃ c : Int, 0 ≤ c ∧ c ≤ 800 * i ∧ Gi .f64 1074 11 (fitD (vs.map l8) (ws.map x32) i) c := by
    intro i
    induction i with
    | zero => intro _; exact ⟨0, by omega, by omega, Gi.sum0 .f64 z64⟩
    | succ i ih =>
      intro hi
      obtain ⟨c, c0, c1, c2⟩ := ih (by omega)
      obtain ⟨e, e0, e1, e2⟩ := gxy i (by omega)
      exact ⟨_, by omega, by omega, add_ex (sok 11 (by omega)) c2 e2 (by rw [hbin]; omega)⟩
  obtain ⟨a, a0, a1, a2⟩ := sA n (Nat.le_refl _)
  obtain ⟨b, b0, b1, b2⟩ := sB n (Nat.le_refl _)
  obtain ⟨c, c0, c1, c2⟩ := sC n (Nat.le_refl _)
  obtain ⟨d, d0, d1, d2⟩ := sD n (Nat.le_refl _)
  have gn : Gi .f64 1074 0 (fOI .f64 (Int.ofNat n)) (n : Int) := n_gi ⟨n, by omega⟩
  have mulb : ∀ {p q : Int} {P Q : Nat}, 0 ≤ p → p ≤ P → 0 ≤ q → q ≤ Q → 0 ≤ p * q ∧ p * q ≤ ((P * Q : Nat) : Int) := fun h1 h2 h3 h4 => ⟨Int.mul_nonneg h1 h3, by rw [Int.natCast_mul]; exact Int.mul_le_mul h2 h4 h3 (by omega)⟩
  have m1 := mulb (p := (n : Int)) (q := c) (P := 6) (Q := 60000) (by omega) (by omega) c0 (by omega)
  have m2 := mulb (p := a) (q := a) (P := 600) (Q := 600) a0 (by omega) a0 (by omega)
  have m3 := mulb (p := (n : Int)) (q := d) (P := 6) (Q := 4800) (by omega) (by omega) d0 (by omega)
  have m4 := mulb (p := a) (q := b) (P := 600) (Q := 48) a0 (by omega) b0 (by omega)
  simp only [Nat.reduceMul] at m1 m2 m3 m4
  have gE : Gi .f64 1074 12 (fitE (vs.map l8) n) ((n : Int) * c - a * a) := sub_ex (sok 12 (by omega)) (mul_ex (s := 0) (t := 12) hlp (by omega) (sok 12 (by omega)) gn c2 (by rw [hbin]; omega)) (mul_ex (s := 6) (t := 6) hlp (by omega) (sok 12 (by omega)) a2 a2 (by rw [hbin]; omega)) (by rw [hbin]; omega)
  have gN : Gi .f64 1074 11 (fop .sub .f64 (fop .mul .f64 (fOI .f64 (Int.ofNat n)) (fitD (vs.map l8) (ws.map x32) n)) (fop .mul .f64 (fitA (vs.map l8) n) (fitB (ws.map x32) n))) ((n : Int) * d - a * b) := sub_ex (sok 11 (by omega)) (mul_ex (s := 0) (t := 11) hlp (by omega) (sok 11 (by omega)) gn d2 (by rw [hbin]; omega)) (mul_ex (s := 6) (t := 5) hlp (by omega) (sok 11 (by omega)) a2 b2 (by rw [hbin]; omega)) (by rw [hbin]; omega)
  -- the quotient's lower part is one unit at least
  have hE1 : 1 ≤ (n : Int) * c - a * a := by
    rw [(fcmp_vl gE.1 z64.1).2.2.2.2.1, z64.2, gE.2] at hg
    have := of_decide_eq_true hg
    have hp : (0 : Int) ≤ ((2 ^ (1074 - 12) : Nat) : Int) := by omega
    by_cases h : 1 ≤ (n : Int) * c - a * a
    · exact h
    · exfalso
      have hle : (n : Int) * c - a * a ≤ 0 := by omega
      have := Int.mul_nonpos_of_nonpos_of_nonneg hle hp
      omega
  have eM := gi_mg gE
  have nM := gi_mg gN
  have rS : rg FloatKind.f64.format (fitS (vs.map l8) (ws.map x32) n) ≤ 4683743612465315840 := by
    refine quo_rg (A := 28800 * 2 ^ (1074 - 11)) (B := 2 ^ (1074 - 12)) (N := 1074) gN.1 gE.1 ?_ ?_ (Nat.two_pow_pos _) hlp (by decide +kernel)
    · have hle : ∀ P : Nat, ((n : Int) * d - a * b).natAbs * P ≤ 28800 * P := fun P => Nat.mul_le_mul_right P (by omega)
      rw [nM]
      exact hle (2 ^ (1074 - 11))
    · rw [eM]; exact Nat.le_mul_of_pos_left _ (show 0 < ((n : Int) * c - a * a).natAbs by omega)
  have rA : rg FloatKind.f64.format (fitA (vs.map l8) n) ≤ 4625196817309499392 := by
    refine rg_of_mg ?_
    rw [gi_mg a2]
    exact Nat.le_trans (Nat.mul_le_mul_right _ (show a.natAbs ≤ 600 by omega)) (by decide +kernel)
  have rB : rg FloatKind.f64.format (fitB (ws.map x32) n) ≤ 4611686018427387904 := by
    refine rg_of_mg ?_
    rw [gi_mg b2]
    exact Nat.le_trans (Nat.mul_le_mul_right _ (show b.natAbs ≤ 48 by omega)) (by decide +kernel)
  have rM : rg FloatKind.f64.format (fop .mul .f64 (fitS (vs.map l8) (ws.map x32) n) (fitA (vs.map l8) n)) ≤ 4701758010974797824 := mul_rg (N := 1074) rS rA (by decide) (by decide) hlp (by decide +kernel)
  have rU : rg FloatKind.f64.format (fop .sub .f64 (fitB (ws.map x32) n) (fop .mul .f64 (fitS (vs.map l8) (ws.map x32) n) (fitA (vs.map l8) n))) ≤ 4706261610602168320 := sub_rg rB rM (by decide) (by decide) (by decide +kernel)
  have rT : rg FloatKind.f64.format (fitT (vs.map l8) (ws.map x32) n) ≤ 4710765210229538816 := by
    refine quo_rg (A := rungV FloatKind.f64.format 4706261610602168320) (B := 2 ^ 1075) (N := 1074) (finW_of rU (by decide)) gn.1 (mg_le rU) ?_ (Nat.two_pow_pos _) hlp (by decide +kernel)
    rw [gi_mg gn]
    exact Nat.le_trans (show 2 ^ 1075 ≤ 2 * 2 ^ (1074 - 0) by decide +kernel) (Nat.mul_le_mul_right _ (by omega))
  exact ⟨down_t (N := 925) rT (by decide) (by decide) (c := 1317011456) (by decide) (by decide +kernel), down_t (N := 925) rS (by decide) (by decide) (c := 1317011456) (by decide) (by decide +kernel)⟩
def areaV (as ls : List Nat) : Nat → Nat
  | 0 => 0
  | i + 1 => fop .add .f32 (areaV as ls i) (termV as ls (i + 1))
theorem area_gen {as ls : List Nat} {n : Nat} (h24 : n ≤ 24) : ∀ d i m, i + d = n → d < m → 1 ≤ i → z1e as ls n n m (areaV as ls (i - 1)) (Int.ofNat i) = some (areaV as ls (n - 1), Int.ofNat n, false)
  | 0, i, m, h1, h2, h3 => by
    obtain ⟨m, rfl⟩ : ∃ k, m = k + 1 := ⟨m - 1, by omega⟩
    obtain rfl : i = n := by omega
    rw [z63]; unfold z2n; rw [ltN_f (Nat.le_refl _)]; rfl
  | d + 1, i, m, h1, h2, h3 => by
    obtain ⟨m, rfl⟩ : ∃ k, m = k + 1 := ⟨m - 1, by omega⟩
    have hi : i < n := by omega
    have e1 : subI .i64 (Int.ofNat i) 1 = Int.ofNat (i - 1) := subN1 (by omega) (by omega)
    have ih := area_gen (as := as) (ls := ls) h24 d (i + 1) m (by omega) (by omega) (by omega)
    have e2 : areaV as ls (i + 1 - 1) = fop .add .f32 (areaV as ls (i - 1)) (termV as ls i) := by
      obtain ⟨j, rfl⟩ : ∃ j, i = j + 1 := ⟨i - 1, by omega⟩
      rfl
    rw [e2] at ih
    rw [z63]; unfold z2n
    rw [ltN_t hi, e1, okIx_t hi, okIx_t (show i - 1 < n by omega), ix1, ix1, addI1 (by omega)]
    simp only [br_true, grd_true, gF]
    exact ih
theorem LiftArea_gen {as ls ds : List Nat} (hv : validProfB as ls ds = true) (hf : finB (areaV as ls (as.length - 1)) = true) : z2p as.length as ls.length ls ds.length ds = some (areaV as ls (as.length - 1), true) := by
  obtain ⟨c1, c2, c3, c4⟩ := validProfB_len hv
  obtain ⟨p1, q1⟩ := z38 (impl_ValidProfile_eq (as := as) (ls := ls) (ds := ds) (by omega) (by omega))
  obtain ⟨g1, g2, _⟩ := zdt rfl (show z1e as ls as.length as.length big 0 1 = some _ from area_gen (as := as) (ls := ls) c2 (as.length - 1) 1 big (by omega) (big_gt (by omega)) (by omega))
  obtain ⟨p4, q4, r4⟩ := z6p (impl_checked_eq (areaV as ls (as.length - 1)))
  have hk : checkV (areaV as ls (as.length - 1)) = areaV as ls (as.length - 1) := by unfold checkV; rw [if_pos hf]
  rw [hk] at q4
  rw [hf] at r4
  unfold z2p z5q
  rw [c3] at p1 q1 ⊢
  have pl : pF ls 0 (muN as.length 1) = ls := by rw [← c3]; exact pF_all _
  simp only [pF_all, pl, p1, q1, hv, g1, g2, p4, q4, r4, grd_true, bnot_true, br_false]
structure BestP (as ls ds : List Nat) : Prop where
  area : ∃ a b, z2p as.length as as.length ls as.length ds = some (a, true) ∧ z2p as.length (mirA as) as.length (mirA ls) as.length ds.reverse = some (b, true) ∧ finW .f32 a = true ∧ finW .f32 b = true ∧ (vl .f32 a + vl .f32 b).natAbs ≤ 2 ^ 135
  zero : ∀ i, 1 ≤ i → i < as.length → riseB ls i = true → zeroOk as ls i
  fit : fcmp .gtr .f64 (fitE ls as.length) 0 = true → fcvB .f64 .f32 (fitT ls ds as.length) = true ∧ fcvB .f64 .f32 (fitS ls ds as.length) = true
noncomputable def zeroB (as ls : List Nat) (i : Nat) : Bool :=
  finB (zeroW as ls i) && (finW .f32 (atW as ls (wrapV (zeroW as ls i))) && (decide ((vl .f32 (atW as ls (wrapV (zeroW as ls i)))).natAbs ≤ 2 ^ 135) && (decide (vl .f32 (as.getD 0 0) ≤ vl .f32 (zeroW as ls i)) && decide (vl .f32 (zeroW as ls i) ≤ vl .f32 (as.getD (as.length - 1) 0)))))
noncomputable def bestB (as ls ds : List Nat) : Bool :=
  finB (areaV as ls (as.length - 1)) && (finB (areaV (mirA as) (mirA ls) (as.length - 1)) && (decide ((vl .f32 (areaV as ls (as.length - 1)) + vl .f32 (areaV (mirA as) (mirA ls) (as.length - 1))).natAbs ≤ 2 ^ 135) &&
  ((List.range as.length).all (fun i => decide (i = 0) || (!riseB ls i || zeroB as ls i)) && (!fcmp .gtr .f64 (fitE ls as.length) 0 || (fcvB .f64 .f32 (fitT ls ds as.length) && fcvB .f64 .f32 (fitS ls ds as.length))))))
theorem plates_best : (List.range 8).all (fun m => bestB (pA.getD m []) (pL.getD m []) (pD.getD m [])) = true := by decide +kernel
theorem best_of {as ls ds : List Nat} (hv : validProfB as ls ds = true) (h : bestB as ls ds = true) : BestP as ls ds := by
  obtain ⟨c1, c2, c3, c4⟩ := validProfB_len hv
  unfold bestB at h
  simp only [Bool.and_eq_true, decide_eq_true_eq] at h
  obtain ⟨h1, h2, h3, h4, h5⟩ := h
  have hm := mirror_valid hv
  have e1 := LiftArea_gen hv h1
  have e2 := LiftArea_gen hm (by rw [mirA_length]; exact h2)
  simp only [mirA_length, List.length_reverse, c3, c4] at e1 e2
  refine ⟨⟨_, _, e1, e2, by rw [← finB_eq]; exact h1, by rw [← finB_eq]; exact h2, h3⟩, fun i a b hr => ?_, fun hg => ?_⟩
  · have := range_all.1 h4 i b
    simp only [Bool.or_eq_true, decide_eq_true_eq, Bool.not_eq_true'] at this
    rcases this with h | h | h
    · omega
    · rw [hr] at h; cases h
    · unfold zeroB at h
      simp only [Bool.and_eq_true, decide_eq_true_eq] at h
      exact ⟨h.1, h.2.1, h.2.2.1, h.2.2.2.1, h.2.2.2.2⟩
  · rw [hg] at h5
    simpa using h5
theorem drawn_best {as ls ds : List Nat} (h : DrawnP as ls ds) : BestP as ls ds := by
  have hv := drawn_valid h
  rcases h with ⟨m, h1, h2, rfl, rfl, rfl⟩ | ⟨u, us, vs, ws, hu1, hu2, hc, hn1, hn2, hv', hw, hvs, hws, rfl, rfl, rfl⟩
  · have hl := plates_lit ⟨m - 2, by omega⟩
    have hg := range_all.1 plates_best (m - 2) (by omega)
    simp only at hl
    rw [show m - 2 + 2 = m by omega] at hl
    rw [hl.1, hl.2.1, hl.2.2] at hv ⊢
    exact best_of hv hg
  · obtain ⟨a, b, e1, e2, f1, f2, f3⟩ := grid_area hu1 hu2 hc hn1 hn2 hv' hw hvs hws
    refine ⟨⟨a, b, by rw [List.length_map]; exact e1, by rw [List.length_map]; exact e2, f1, f2, by rw [f3]; decide⟩, fun i a b hr => ?_, fun hg => ?_⟩
    · rw [List.length_map] at b
      exact grid_zero hu1 hu2 hc hn1 hn2 hv' hvs a b hr
    · rw [List.length_map] at hg ⊢
      exact grid_fit hn1 hn2 hv' hw hvs hws hg
theorem half_lift {x : Nat} (h : finW .f32 x = true) : finB (fop .mul .f32 x 1056964608) = true ∧ fcmp .eql .f32 (fop .mul .f32 x 1056964608) (fop .quo .f32 x 1073741824) = true := by
  have hf : finW .f32 (fop .mul .f32 x 1056964608) = true := by
    rw [fop_mul_comm]
    exact (mul_unit (f := 1056964608) (by decide +kernel) (by decide +kernel) h).1
  refine ⟨by rw [finB_eq]; exact hf, ?_⟩
  rw [half_eq, fop_mul_comm .f32 1056964608 x, (fcmp_vl hf hf).1]
  simp
theorem LiftApart_of {as ls ds : List Nat} {x : Nat} (hv : validProfB as ls ds = true) (hx : finB x = true) (hf : finW .f32 (atW as ls (wrapV x)) = true) :
    z4h as.length as ls.length ls ds.length ds x 1056964608 false = some (atW as ls (wrapV x), true) ∧ z4h as.length as ls.length ls ds.length ds x 1056964608 true = some (fop .mul .f32 (atW as ls (wrapV x)) 1056964608, true) := by
  have hfb : finB (atW as ls (wrapV x)) = true := by rw [finB_eq]; exact hf
  obtain ⟨p1, q1, r1⟩ := zh8 (LiftAt_any hv hx hfb)
  obtain ⟨p2, q2⟩ := z4g (impl_IsFinite_eq 1056964608)
  obtain ⟨p3, q3, r3⟩ := z6p (impl_checked_eq (atW as ls (wrapV x)))
  obtain ⟨p4, q4, r4⟩ := z6p (impl_checked_eq (fop .mul .f32 (atW as ls (wrapV x)) 1056964608))
  have hh := (half_lift hf).1
  have k1 : checkV (atW as ls (wrapV x)) = atW as ls (wrapV x) := by unfold checkV; rw [if_pos hfb]
  have k2 : checkV (fop .mul .f32 (atW as ls (wrapV x)) 1056964608) = fop .mul .f32 (atW as ls (wrapV x)) 1056964608 := by unfold checkV; rw [if_pos hh]
  rw [k1] at q3
  rw [k2] at q4
  rw [hfb] at r3
  rw [hh] at r4
  rw [show finB 1056964608 = true by decide +kernel] at q2
  unfold z4h z68
  simp only [pF_all, p1, q1, r1, p2, q2, p3, q3, r3, p4, q4, r4, grd_true, bnot_true, br_false, br_true, and_self]
theorem plain_FnBests {xs ys : List Int} (kx : ∀ x ∈ xs, bdI .u8 x) (mx : xs.length ≤ maxLen) (ky : ∀ x ∈ ys, bdI .u8 x) (my : ys.length ≤ maxLen) : z7r xs.length xs ys.length ys = some true := by
  have hx := byte_of kx
  have hy := byte_of ky
  obtain ⟨as, ls, ds, hD, h9, hF⟩ := R8_draw (n := xs.length) hx
  have hg := drawn_good hD
  have hb := drawn_best hD
  have hv := hg.valid
  obtain ⟨c1, c2, c3, c4⟩ := validProfB_len hv
  have hfl : ∀ k, k < as.length → finW .f32 (ls.getD k 0) = true := fun k hk => by rw [← finB_eq]; exact (prof_num hv hk).2.1
  have hM := impl_MirrorProfile_eq hv
  obtain ⟨c, s1, s2, hSt⟩ := StallOf_ex hv
  obtain ⟨a, b, hA, hB, fa, fb, hab⟩ := hb.area
  -- the areas
  obtain ⟨ua, va⟩ := up_vl fa
  obtain ⟨ub, vb⟩ := up_vl fb
  obtain ⟨nb1, nb2⟩ := neg_vl ub
  obtain ⟨g1, gF1, gF2⟩ := gap_max ua nb1 (by
    rw [va, nb2, vb]
    have e : vl .f32 a * 2 ^ 925 - -(vl .f32 b * 2 ^ 925) = (vl .f32 a + vl .f32 b) * 2 ^ 925 := by
      rw [Int.add_mul]; omega
    rw [e, Int.natAbs_mul]
    exact Nat.le_trans (Nat.mul_le_mul_right _ hab) (by decide +kernel))
  have z0 : fcmp .neq .f32 (as.getD c 0) (as.getD c 0) = false := by
    have h := (prof_num hv s1).1
    rw [finB_eq] at h
    rw [(fcmp_vl h h).2.1]; simp
  obtain ⟨l1, l2, _⟩ := laws_FnBests_l12_of1 rfl (l12_loop (ls := ls) c2 s1 hfl s2)
  obtain ⟨best, glide, okg, hG, hGl⟩ := BestGlide_ex hv
  -- angles
  obtain ⟨zs, e39, hz6, hz⟩ := l39_loop hy 6 0 big [] (by omega) (big_gt (by omega)) rfl (fun j hj => by omega)
  have hzf : ∀ j, j < 6 → finB (zs.getD j 0) = true := fun j hj => by
    obtain ⟨v, v0, v1, e⟩ := hz j hj
    have w1 := wrap_q ⟨(v + 128).toNat, by omega⟩
    simp only at w1
    rw [show (((v + 128).toNat : Int)) - 128 = v by omega] at w1
    rw [e]; exact w1.1
  obtain ⟨a39, b39, _, _, d39⟩ := laws_FnBests_l39_of0 rfl (show z1q ys.length ys big 0 0 [] = some _ from e39)
  have hRun := RunApart_eq (xs := zs) hz6 (by omega) hzf
  obtain ⟨n1, n2, _⟩ := laws_FnBests_l47_of1 rfl (show z1p 6 6 zs (listB zs 6) big false 0 = some _ from l47_loop (xs := zs) hzf 6 0 big (by omega) (big_gt (by omega)))
  obtain ⟨v, v0, v1, ev⟩ := hz 0 (by omega)
  have w1 := wrap_q ⟨(v + 128).toNat, by omega⟩
  simp only at w1
  rw [show (((v + 128).toNat : Int)) - 128 = v by omega] at w1
  have lf := (hg.lift (wr v) (by unfold wr; omega) (by unfold wr; omega)).1
  obtain ⟨hL1, hL2⟩ := LiftApart_of hv w1.1 (by rw [w1.2]; exact lf)
  rw [w1.2] at hL1 hL2
  have hhalf := (half_lift lf).2
  obtain ⟨⟨ft1, ft2, ft3⟩, hFit, hFf⟩ := FitDrags_ex hv hb.fit
  simp only at hFf
  obtain ⟨if1, if2⟩ := z4g (impl_IsFinite_eq ft1)
  obtain ⟨if3, if4⟩ := z4g (impl_IsFinite_eq ft2)
  have m1 := mirA_length as
  have m2 := mirA_length ls
  have m3 : ds.reverse.length = ds.length := List.length_reverse
  simp only [m1, m2, m3, c3, c4] at hF hM hSt hG hL1 hL2 hFit
  obtain ⟨B0, B1, B2, B3, B4, B5, B6⟩ := zkt hF
  obtain ⟨L0, L1⟩ := zmb (show z8a xs.length xs ys.length ys = some (ltI 48 (Int.ofNat xs.length) || ltI 48 (Int.ofNat ys.length)) by
    unfold z8a z8c
    cases ltI 48 (Int.ofNat xs.length) <;> rfl)
  obtain ⟨M0, M1, M2, M3, M4, M5, M6, M7⟩ := zdc hM
  obtain ⟨T0, T1, T2, T3⟩ := zlm hSt
  obtain ⟨A0, A1, A2⟩ := zff hA
  obtain ⟨E0, E1, E2⟩ := zff hB
  obtain ⟨G0, G1⟩ := zi2 gF1
  obtain ⟨H0, H1, H2, H3⟩ := zkx hG
  obtain ⟨R0, R1, R2, R3⟩ := zld hRun
  obtain ⟨P0, P1, P2⟩ := zf2 hL1
  obtain ⟨Q0, Q1, Q2⟩ := zf2 hL2
  obtain ⟨F0, F1, F2, F3⟩ := zl5 hFit
  have p1 : pF as 0 (muN as.length 1) = as := pF_all _
  have p2 : pF ls 0 (muN as.length 1) = ls := by rw [← c3]; exact pF_all _
  have p3 : pF ds 0 (muN as.length 1) = ds := by rw [← c4]; exact pF_all _
  have p4 : pF (mirA as) 0 (muN as.length 1) = mirA as := by rw [← m1]; exact pF_all _
  have p5 : pF (mirA ls) 0 (muN as.length 1) = mirA ls := by rw [← c3, ← m2]; exact pF_all _
  have p6 : pF ds.reverse 0 (muN as.length 1) = ds.reverse := by rw [← c4, ← m3]; exact pF_all _
  have p7 : pF zs 0 (muN 6 1) = zs := by rw [← hz6]; exact pF_all _
  have o0 : okIx 0 as.length = true := okIx_t (i := 0) (by omega)
  have o6 : okIx 0 6 = true := rfl
  have oc : okIx (Int.ofNat c) as.length = true := okIx_t s1
  have ocx : ixO 0 (Int.ofNat c) 1 = c := ix1 c
  have oz : ixO 0 0 1 = 0 := rfl
  have i1 : ltI (Int.ofNat c) 0 = false := ltI_f (by simp)
  have i2 : leI (Int.ofNat as.length) (Int.ofNat c) = false := decide_eq_false (by simp; omega)
  have e6 : neI (Int.ofNat 6) 6 = false := rfl
  have en : subI .i64 (Int.ofNat as.length) 1 = Int.ofNat (as.length - 1) := subN1 (by omega) (by omega)
  have on : okIx (Int.ofNat (as.length - 1)) as.length = true := okIx_t (by omega)
  have onx : ixO 0 (Int.ofNat (as.length - 1)) 1 = as.length - 1 := ix1 _
  have r28 := l28_loop (ls := ls) c2 (as.length - 1) 1 big (by omega) (big_gt (by omega)) (by omega)
  rw [show riseTo ls 1 = false by simp [riseTo]] at r28
  obtain ⟨k28, j28, _⟩ := laws_FnBests_l28_of0 rfl (show z28 (Int.ofNat as.length) as.length ls big false 1 = some _ from r28)
  -- the end of the law
  have tail : (br (z2d as.length as as.length ls as.length ds (t64 v) 1056964608 false) (br (z2d as.length as as.length ls as.length ds (t64 v) 1056964608 true) (br (fcmp .eql .f32 (z2f as.length as as.length ls as.length ds (t64 v) 1056964608 true) (fop .quo .f32 (z2f as.length as as.length ls as.length ds (t64 v) 1056964608 false) 1073741824)) (br (bnot ft3) (some true) (br (finB ft1) (some (finB ft2)) (some false))) (some false)) (some false)) (some false) : Option Bool) = some true := by
    rw [P2, Q2, P1, Q1, hhalf]
    simp only [br_true]
    cases h3 : ft3 with
    | false => rfl
    | true =>
      obtain ⟨x1, x2⟩ := hFf h3
      rw [x1, x2]; rfl
  rw [P1, P2, Q1, Q2, hhalf] at tail
  unfold z7r z7q
  simp only [pI_all, L0, L1, grd_true]
  cases (ltI 48 (Int.ofNat xs.length) || ltI 48 (Int.ofNat ys.length))
  · simp only [B0, B1, B2, B3, B4, B5, B6, p1, p2, p3, T0, T1, T2, T3, A0, A1, A2, M0, M1, M2, M3, M4, M5, M6, M7, p4, p5, p6, E0, E1, E2, i1, i2, oc, ocx, gF, z0, G0, G1, gF2, l1, l2, H0, H1, H2, H3, k28, j28, o0, o6, oz, en, on, onx, a39, b39, d39, p7, R0, R1, R2, R3, e6, n1, n2, ev, P0, P1, P2, Q0, Q1, Q2, F0, F1, F2, F3, if1, if2, if3, if4, hhalf, grd_true, bnot_true, br_true, br_false]
    have glidePart : okg = true → ∃ b : Nat, best = Int.ofNat b ∧ ltI best 0 = false ∧ leI (Int.ofNat as.length) best = false ∧ okIx best as.length = true ∧ fcmp .neq .f32 (fop .quo .f32 (ls.getD (ixO 0 best 1) 0) (ds.getD (ixO 0 best 1) 0)) glide = false ∧ laws_FnBests_l21_p (Int.ofNat as.length) glide as.length as.length ls ds 0 = true ∧ laws_FnBests_l21_w0 (Int.ofNat as.length) glide as.length as.length ls ds 0 = false := fun h => by
      obtain ⟨b', e, hb', hq, hj⟩ := hGl h
      subst e
      obtain ⟨y1, y2, _⟩ := laws_FnBests_l21_of1 rfl (l21_loop (ls := ls) (ds := ds) c2 hj)
      refine ⟨b', rfl, ltI_f (by simp), decide_eq_false (by simp; omega), okIx_t hb', ?_, y1, y2⟩
      rw [ix1]; exact hq
    rcases ZeroLift_ex hv with ⟨y1, y2⟩ | ⟨i, y1, y2, y3, y4⟩
    · simp only [c3, c4] at y2
      obtain ⟨Z0, Z1, Z2⟩ := zfm y2
      have hrt : riseTo ls as.length = false := by
        cases h : riseTo ls as.length with
        | false => rfl
        | true =>
          obtain ⟨i, a, b, c⟩ := (riseTo_any _).1 h
          rw [y1 i a b] at c; cases c
      simp only [Z0, Z1, Z2, hrt, beqB_self, bnot_true, br_false, grd_true]
      cases hk : okg with
      | false => exact tail
      | true =>
        obtain ⟨b', _, u1, u2, u3, u4, u5, u6⟩ := glidePart hk
        simp only [u1, u2, u3, u4, u5, u6, br_true, br_false, grd_true]
        exact tail
    · simp only [c3, c4] at y4
      obtain ⟨q1, q2, q3, q4, q5⟩ := hb.zero i y1 y2 y3
      have hck : checkV (zeroW as ls i) = zeroW as ls i := by unfold checkV; rw [if_pos q1]
      rw [hck, q1] at y4
      obtain ⟨Z0, Z1, Z2⟩ := zfm y4
      have hrt : riseTo ls as.length = true := (riseTo_any _).2 ⟨i, y1, y2, y3⟩
      have hLz := LiftAt_any hv q1 (by rw [finB_eq]; exact q2)
      simp only [c3, c4] at hLz
      obtain ⟨V0, V1, V2⟩ := zh8 hLz
      obtain ⟨uu, uv⟩ := up_vl q2
      have z64 : finW .f64 0 = true ∧ vl .f64 0 = 0 := by decide +kernel
      obtain ⟨gz, gz1, gz2⟩ := gap_max uu z64.1 (by
        rw [uv, z64.2, Int.sub_zero, Int.natAbs_mul]
        exact Nat.le_trans (Nat.mul_le_mul_right _ q3) (by decide +kernel))
      obtain ⟨X0, X1⟩ := zi2 gz1
      have q1' := q1
      rw [finB_eq] at q1'
      have f0 : finW .f32 (as.getD 0 0) = true := by rw [← finB_eq]; exact (prof_num hv (by omega)).1
      have fn : finW .f32 (as.getD (as.length - 1) 0) = true := by rw [← finB_eq]; exact (prof_num hv (by omega)).1
      have t1 : fcmp .lss .f32 (zeroW as ls i) (as.getD 0 0) = false := by rw [(fcmp_vl q1' f0).2.2.1]; exact decide_eq_false (by omega)
      obtain ⟨zu, zv⟩ := up_vl q1'
      obtain ⟨nu, nv⟩ := up_vl fn
      have t2 : fcmp .gtr .f64 (fcvV .f32 .f64 (zeroW as ls i)) (fop .add .f64 (fcvV .f32 .f64 (as.getD (as.length - 1) 0)) 4562254508917369340) = false := up_ok zu nu eps_ok.1 eps_ok.2 (by rw [zv, nv]; exact Int.mul_le_mul_of_nonneg_right q5 (by decide))
      simp only [Z0, Z1, Z2, hrt, V0, V1, V2, X0, X1, gz2, t1, t2, beqB_self, bnot_true, br_true, br_false, grd_true]
      cases hk : okg with
      | false => exact tail
      | true =>
        obtain ⟨b', _, u1, u2, u3, u4, u5, u6⟩ := glidePart hk
        simp only [u1, u2, u3, u4, u5, u6, br_true, br_false, grd_true]
        exact tail
  · rfl
end Go.Rf
