/-
  Plain laws.
-/
import Derived.Test.YthaiinndikpmcaaProfilesP
set_option linter.unusedVariables false
set_option linter.unusedSimpArgs false
set_option maxRecDepth 100000
set_option maxHeartbeats 4000000
namespace Go.Rf
open Go
theorem srung_word (k : FloatKind) (s : Bool) {r : Nat} (h : r ≤ k.format.infRung) : srung k.format (k.format.word s r) = sg s r := by
  unfold srung
  rw [(word_rg k.format s h).1, (word_rg k.format s h).2]
theorem srung_vl {k : FloatKind} (x : Nat) : srung k.format x = sg (nn k x) (rg k.format x) := rfl
theorem round_ge {k : FloatKind} {a : Nat} {V : Int} {s t : Bool} (ha : finW k a = true) (h : vl k a ≤ V) : srung k.format a ≤ sg (sgn0 s t V) (rnd k.format V.natAbs (lp k)) := by
  have hr := finW_lt ha
  have hlp : lp k + ((0 : Nat) : Int) = k.format.leastPlace + ((0 : Nat) : Int) := rfl
  rw [srung_vl]
  unfold vl at h
  have hm : mg k a = rungV k.format (rg k.format a) := rfl
  by_cases h0 : V = 0
  · subst h0
    have hz : (0 : Int).natAbs = 0 := rfl
    rw [hz, rnd_zero]
    cases hn : nn k a
    · rw [hn] at h
      have h1 : mg k a = 0 := by simp [sg] at h; omega
      have h2 : rg k.format a = 0 := by
        by_cases e : rg k.format a = 0
        · exact e
        · have := rungV_lt k.format (show 0 < rg k.format a by omega)
          rw [rungV_zero, ← hm] at this; omega
      rw [h2]; simp [sg]
    · simp [sg]
  · unfold sgn0
    rw [if_neg h0]
    by_cases hV : V < 0
    · rw [decide_eq_true hV]
      cases hn : nn k a
      · rw [hn] at h; simp [sg] at h; omega
      · rw [hn] at h
        simp only [sg, if_true] at h ⊢
        have : rnd k.format V.natAbs (lp k) ≤ rg k.format a := rnd_le k.format (u := 0) (v := 0) hlp (by rw [Nat.pow_zero, Nat.mul_one, Nat.mul_one, ← hm]; omega)
        omega
    · rw [decide_eq_false hV]
      cases hn : nn k a
      · rw [hn] at h
        simp only [sg, Bool.false_eq_true, if_false] at h ⊢
        have : rg k.format a ≤ rnd k.format V.natAbs (lp k) := le_rnd k.format (u := 0) (v := 0) (by omega) hlp (by rw [Nat.pow_zero, Nat.mul_one, Nat.mul_one, ← hm]; omega)
        omega
      · simp only [sg, Bool.false_eq_true, if_false, if_true]
        omega
theorem round_le {k : FloatKind} {a : Nat} {V : Int} {s t : Bool} (ha : finW k a = true) (h : V ≤ vl k a) : sg (sgn0 s t V) (rnd k.format V.natAbs (lp k)) ≤ srung k.format a := by
  have hr := finW_lt ha
  have hlp : lp k + ((0 : Nat) : Int) = k.format.leastPlace + ((0 : Nat) : Int) := rfl
  rw [srung_vl]
  unfold vl at h
  have hm : mg k a = rungV k.format (rg k.format a) := rfl
  by_cases h0 : V = 0
  · subst h0
    have hz : (0 : Int).natAbs = 0 := rfl
    rw [hz, rnd_zero]
    cases hn : nn k a
    · simp [sg]
    · rw [hn] at h
      have h1 : mg k a = 0 := by simp [sg] at h; omega
      have h2 : rg k.format a = 0 := by
        by_cases e : rg k.format a = 0
        · exact e
        · have := rungV_lt k.format (show 0 < rg k.format a by omega)
          rw [rungV_zero, ← hm] at this; omega
      rw [h2]; simp [sg]
  · unfold sgn0
    rw [if_neg h0]
    by_cases hV : V < 0
    · rw [decide_eq_true hV]
      cases hn : nn k a
      · simp only [sg, Bool.false_eq_true, if_false, if_true]
        omega
      · rw [hn] at h
        simp only [sg, if_true] at h ⊢
        have : rg k.format a ≤ rnd k.format V.natAbs (lp k) := le_rnd k.format (u := 0) (v := 0) (by omega) hlp (by rw [Nat.pow_zero, Nat.mul_one, Nat.mul_one, ← hm]; omega)
        omega
    · rw [decide_eq_false hV]
      cases hn : nn k a
      · rw [hn] at h
        simp only [sg, Bool.false_eq_true, if_false] at h ⊢
        have : rnd k.format V.natAbs (lp k) ≤ rg k.format a := rnd_le k.format (u := 0) (v := 0) hlp (by rw [Nat.pow_zero, Nat.mul_one, Nat.mul_one, ← hm]; omega)
        omega
      · rw [hn] at h; simp [sg] at h; omega
theorem sum_ge {k : FloatKind} {x y a : Nat} (hx : finW k x = true) (hy : finW k y = true) (ha : finW k a = true) (h : vl k a ≤ vl k x + vl k y) : srung k.format a ≤ srung k.format (fop .add k x y) := by
  rw [add_word hx hy, srung_word _ _ (rnd_inf _ _ _)]
  exact round_ge ha h
theorem sum_le {k : FloatKind} {x y a : Nat} (hx : finW k x = true) (hy : finW k y = true) (ha : finW k a = true) (h : vl k x + vl k y ≤ vl k a) : srung k.format (fop .add k x y) ≤ srung k.format a := by
  rw [add_word hx hy, srung_word _ _ (rnd_inf _ _ _)]
  exact round_le ha h
theorem rnd_lp (f : Ieee.Format) {m : Nat} (hm : m ≠ 0) : rnd f m f.leastPlace = min ((m.log2 - f.fractionBits) * f.binade + Ieee.Toward.even.cut false m (m.log2 - f.fractionBits)) f.infRung := by
  unfold rnd Ieee.Format.nearest
  rw [if_neg hm]
  refine (word_rg f false (Nat.min_le_right _ _)).1.trans ?_
  have e1 : (max (f.leastPlace + (m.log2 : Int) - f.fractionBits) f.leastPlace - f.leastPlace).toNat = m.log2 - f.fractionBits := by omega
  have e2 : (f.leastPlace - max (f.leastPlace + (m.log2 : Int) - f.fractionBits) f.leastPlace).toNat = 0 := by omega
  rw [e1, e2, Nat.shiftLeft_zero]
theorem log2_dbl {m : Nat} (hm : m ≠ 0) : (m * 2).log2 = m.log2 + 1 := by
  have := log2_mul_pow 1 hm
  simpa using this
theorem rnd_dbl (f : Ieee.Format) (m : Nat) (h : rnd f m f.leastPlace + f.binade < f.infRung) : rungV f (rnd f (m * 2) f.leastPlace) = 2 * rungV f (rnd f m f.leastPlace) ∧ rnd f (m * 2) f.leastPlace < f.infRung := by
  by_cases hm : m = 0
  · subst hm
    rw [Nat.zero_mul, rnd_zero, rungV_zero]
    exact ⟨rfl, by rw [rnd_zero] at h; omega⟩
  · have hm2 : m * 2 ≠ 0 := by omega
    have hbin : f.binade = 2 ^ f.fractionBits := rfl
    have hb := binade_pos f
    have hlo : 2 ^ m.log2 ≤ m := Nat.log2_self_le hm
    have hhi : m < 2 ^ (m.log2 + 1) := Nat.lt_log2_self
    rw [rnd_lp f hm] at h ⊢
    rw [rnd_lp f hm2, log2_dbl hm]
    by_cases hl : f.fractionBits ≤ m.log2
    · obtain ⟨d, hd⟩ : ∃ d, m.log2 = f.fractionBits + d := ⟨m.log2 - f.fractionBits, by omega⟩
      rw [hd, show f.fractionBits + d - f.fractionBits = d by omega] at h ⊢
      rw [show f.fractionBits + d + 1 - f.fractionBits = d + 1 by omega]
      have hc : Ieee.Toward.even.cut false (m * 2) (d + 1) = Ieee.Toward.even.cut false m d := by
        have := cut_scale false m d 1 hm
        simpa using this
      rw [hc]
      have q1 : f.binade ≤ Ieee.Toward.even.cut false m d := le_cut false (by rw [hbin, ← Nat.pow_add, ← hd]; exact hlo)
      have q2 : Ieee.Toward.even.cut false m d ≤ 2 * f.binade := cut_le false (by
        have : 2 * f.binade * 2 ^ d = 2 ^ (m.log2 + 1) := by rw [hbin, hd, Nat.pow_succ, Nat.pow_add]; simp only [Nat.mul_comm, Nat.mul_left_comm]
        rw [this]; omega)
      generalize Ieee.Toward.even.cut false m d = q at *
      have e1 : min (d * f.binade + q) f.infRung = d * f.binade + q := by omega
      have e2 : (d + 1) * f.binade = d * f.binade + f.binade := by rw [Nat.add_mul, Nat.one_mul]
      rw [e1] at h ⊢
      have e3 : min ((d + 1) * f.binade + q) f.infRung = (d + 1) * f.binade + q := by omega
      rw [e3, rungV_split f (.inr q1) q2, rungV_split f (.inr q1) q2, Nat.pow_succ]
      refine ⟨by simp only [Nat.mul_comm, Nat.mul_left_comm], by omega⟩
    · rw [show m.log2 - f.fractionBits = 0 by omega] at h ⊢
      rw [show m.log2 + 1 - f.fractionBits = 0 by omega]
      have c1 : Ieee.Toward.even.cut false m 0 = m := by have := cut_exact false m 0 hm; simpa using this
      have c2 : Ieee.Toward.even.cut false (m * 2) 0 = m * 2 := by have := cut_exact false (m * 2) 0 hm2; simpa using this
      rw [c1] at h ⊢
      rw [c2]
      have hmb : m < f.binade := by
        rw [hbin]
        exact Nat.lt_of_lt_of_le hhi (Nat.pow_le_pow_right (by decide) (by omega))
      rw [Nat.zero_mul, Nat.zero_add] at h ⊢
      rw [Nat.zero_add]
      have e1 : min m f.infRung = m := by omega
      rw [e1] at h ⊢
      have e3 : min (m * 2) f.infRung = m * 2 := by omega
      have r1 := rungV_split f (d := 0) (q := m) (.inl rfl) (by omega)
      have r2 := rungV_split f (d := 0) (q := m * 2) (.inl rfl) (by omega)
      simp only [Nat.zero_mul, Nat.zero_add, Nat.pow_zero, Nat.mul_one] at r1 r2
      rw [e3, r1, r2]
      exact ⟨by omega, by omega⟩
theorem rnd_place (f : Ieee.Format) {m s : Nat} {place : Int} (hp : place + (s : Int) = f.leastPlace) (hm : f.binade * 2 ^ s ≤ m) : rnd f m place = min ((m.log2 - f.fractionBits - s) * f.binade + Ieee.Toward.even.cut false m (m.log2 - f.fractionBits)) f.infRung := by
  have hb := binade_pos f
  have hps := Nat.two_pow_pos s
  have hm0 : m ≠ 0 := by
    rintro rfl
    have := Nat.mul_pos hb hps
    omega
  have hlog : f.fractionBits + s ≤ m.log2 := by
    rw [Nat.le_log2 hm0, Nat.pow_add]
    exact hm
  unfold rnd Ieee.Format.nearest
  rw [if_neg hm0]
  refine (word_rg f false (Nat.min_le_right _ _)).1.trans ?_
  have e1 : (max (place + (m.log2 : Int) - f.fractionBits) f.leastPlace - f.leastPlace).toNat = m.log2 - f.fractionBits - s := by omega
  have e2 : (place - max (place + (m.log2 : Int) - f.fractionBits) f.leastPlace).toNat = 0 := by omega
  have e3 : (max (place + (m.log2 : Int) - f.fractionBits) f.leastPlace - place).toNat = m.log2 - f.fractionBits := by omega
  rw [e1, e2, e3, Nat.shiftLeft_zero]
theorem rnd_dbl2 (f : Ieee.Format) {m s : Nat} {place : Int} (hp : place + (s : Int) = f.leastPlace) (hm : m = 0 ∨ f.binade * 2 ^ s ≤ m) (h : rnd f m place + f.binade < f.infRung) : rungV f (rnd f (m * 2) place) = 2 * rungV f (rnd f m place) ∧ rnd f (m * 2) place < f.infRung := by
  rcases hm with rfl | hm
  · rw [Nat.zero_mul, rnd_zero, rungV_zero]
    exact ⟨rfl, by rw [rnd_zero] at h; omega⟩
  · have hb := binade_pos f
    have hps := Nat.two_pow_pos s
    have hm0 : m ≠ 0 := by
      rintro rfl
      have := Nat.mul_pos hb hps
      omega
    have hlog : f.fractionBits + s ≤ m.log2 := by
      rw [Nat.le_log2 hm0, Nat.pow_add]
      exact hm
    have hbin : f.binade = 2 ^ f.fractionBits := rfl
    have hlo : 2 ^ m.log2 ≤ m := Nat.log2_self_le hm0
    have hhi : m < 2 ^ (m.log2 + 1) := Nat.lt_log2_self
    rw [rnd_place f hp hm] at h ⊢
    rw [rnd_place f hp (show f.binade * 2 ^ s ≤ m * 2 by omega), log2_dbl hm0]
    obtain ⟨d, hd⟩ : ∃ d, m.log2 = f.fractionBits + s + d := ⟨m.log2 - f.fractionBits - s, by omega⟩
    rw [hd, show f.fractionBits + s + d - f.fractionBits - s = d by omega, show f.fractionBits + s + d - f.fractionBits = s + d by omega] at h ⊢
    rw [show f.fractionBits + s + d + 1 - f.fractionBits - s = d + 1 by omega, show f.fractionBits + s + d + 1 - f.fractionBits = s + d + 1 by omega]
    have hc : Ieee.Toward.even.cut false (m * 2) (s + d + 1) = Ieee.Toward.even.cut false m (s + d) := by
      have := cut_scale false m (s + d) 1 hm0
      simpa using this
    rw [hc]
    have q1 : f.binade ≤ Ieee.Toward.even.cut false m (s + d) := le_cut false (by rw [hbin, ← Nat.pow_add, show f.fractionBits + (s + d) = m.log2 by omega]; exact hlo)
    have q2 : Ieee.Toward.even.cut false m (s + d) ≤ 2 * f.binade := cut_le false (by
      have : 2 * f.binade * 2 ^ (s + d) = 2 ^ (m.log2 + 1) := by rw [hbin, hd, Nat.pow_succ, Nat.add_assoc, Nat.pow_add 2 f.fractionBits]; simp only [Nat.mul_comm, Nat.mul_left_comm, Nat.mul_assoc]
      rw [this]; omega)
    generalize Ieee.Toward.even.cut false m (s + d) = q at *
    have e1 : min (d * f.binade + q) f.infRung = d * f.binade + q := by omega
    have e2 : (d + 1) * f.binade = d * f.binade + f.binade := by rw [Nat.add_mul, Nat.one_mul]
    rw [e1] at h ⊢
    have e3 : min ((d + 1) * f.binade + q) f.infRung = (d + 1) * f.binade + q := by omega
    rw [e3, rungV_split f (.inr q1) q2, rungV_split f (.inr q1) q2, Nat.pow_succ]
    exact ⟨by simp only [Nat.mul_comm, Nat.mul_left_comm], by omega⟩
def two (k : FloatKind) (x y : Nat) : Prop := finW k x = true ∧ finW k y = true ∧ nn k y = nn k x ∧ mg k y = 2 * mg k x
theorem two_vl {k : FloatKind} {x y : Nat} (h : two k x y) : vl k y = 2 * vl k x := by
  obtain ⟨_, _, h1, h2⟩ := h
  unfold vl
  rw [h1, h2]
  cases nn k x <;> simp [sg] <;> omega
theorem two_add {k : FloatKind} {x x' y y' : Nat} (hx : two k x x') (hy : two k y y') (h : rg k.format (fop .add k x y) + k.format.binade < k.format.infRung) : two k (fop .add k x y) (fop .add k x' y') := by
  have v1 := two_vl hx; have v2 := two_vl hy
  obtain ⟨f1, f2, n1, _⟩ := hx
  obtain ⟨f3, f4, n2, _⟩ := hy
  rw [add_word f1 f3] at h ⊢
  rw [add_word f2 f4, v1, v2, n1, n2]
  rw [rg_word _ _ (rnd_inf _ _ _)] at h
  have e : (2 * vl k x + 2 * vl k y).natAbs = (vl k x + vl k y).natAbs * 2 := by omega
  have es : sgn0 (nn k x) (nn k y) (2 * vl k x + 2 * vl k y) = sgn0 (nn k x) (nn k y) (vl k x + vl k y) := by
    unfold sgn0
    by_cases h0 : vl k x + vl k y = 0
    · rw [if_pos h0, if_pos (by omega)]
    · rw [if_neg h0, if_neg (by omega)]
      by_cases h1 : vl k x + vl k y < 0
      · rw [decide_eq_true h1, decide_eq_true (by omega)]
      · rw [decide_eq_false h1, decide_eq_false (by omega)]
  rw [e, es]
  obtain ⟨g1, g2⟩ := rnd_dbl k.format _ h
  refine ⟨?_, ?_, ?_, ?_⟩
  · unfold finW; rw [rg_word _ _ (rnd_inf _ _ _)]; exact decide_eq_true (by have : rnd k.format (vl k x + vl k y).natAbs k.format.leastPlace + k.format.binade < k.format.infRung := h; show rnd k.format _ k.format.leastPlace < _; omega)
  · unfold finW; rw [rg_word _ _ (rnd_inf _ _ _)]; exact decide_eq_true g2
  · rw [nn_word _ _ (rnd_inf _ _ _), nn_word _ _ (rnd_inf _ _ _)]
  · rw [mg_word _ _ (rnd_inf _ _ _), mg_word _ _ (rnd_inf _ _ _)]; exact g1
theorem two_mul {k : FloatKind} {f x x' s : Nat} (hf : finW k f = true) (hx : two k x x') (hs : lp k + (s : Int) = 0) (hm : mg k f * mg k x = 0 ∨ k.format.binade * 2 ^ s ≤ mg k f * mg k x) (h : rg k.format (fop .mul k f x) + k.format.binade < k.format.infRung) : two k (fop .mul k f x) (fop .mul k f x') := by
  obtain ⟨f1, f2, n1, m1⟩ := hx
  rw [mul_word hf f1] at h ⊢
  rw [mul_word hf f2, n1, m1]
  rw [rg_word _ _ (rnd_inf _ _ _)] at h
  have e : mg k f * (2 * mg k x) = mg k f * mg k x * 2 := by rw [← Nat.mul_assoc, Nat.mul_comm (mg k f) 2, Nat.mul_assoc, Nat.mul_comm 2]
  rw [e]
  obtain ⟨g1, g2⟩ := rnd_dbl2 k.format (s := s) (place := lp k + lp k) (by unfold lp at *; omega) hm h
  have hlt : rnd k.format (mg k f * mg k x) (lp k + lp k) < k.format.infRung := by omega
  refine ⟨?_, ?_, ?_, ?_⟩
  · unfold finW; rw [rg_word _ _ (rnd_inf _ _ _)]; exact decide_eq_true hlt
  · unfold finW; rw [rg_word _ _ (rnd_inf _ _ _)]; exact decide_eq_true g2
  · rw [nn_word _ _ (rnd_inf _ _ _), nn_word _ _ (rnd_inf _ _ _)]
  · rw [mg_word _ _ (rnd_inf _ _ _), mg_word _ _ (rnd_inf _ _ _)]; exact g1
theorem mul_unit {f c : Nat} (hf : rg FloatKind.f32.format f ≤ 1065353216) (hn : nn .f32 f = false) (hc : finW .f32 c = true) : finW .f32 (fop .mul .f32 f c) = true ∧ nn .f32 (fop .mul .f32 f c) = nn .f32 c ∧ mg .f32 (fop .mul .f32 f c) ≤ mg .f32 c := by
  have hff : finW .f32 f = true := finW_of hf (by decide)
  have h1 : mg .f32 f ≤ 2 ^ 149 := Nat.le_trans (mg_le hf) (by decide +kernel)
  rw [mul_word hff hc, hn]
  have hr : rnd FloatKind.f32.format (mg .f32 f * mg .f32 c) (lp .f32 + lp .f32) ≤ rg FloatKind.f32.format c := by
    refine rnd_le FloatKind.f32.format (u := 0) (v := 149) (by decide) ?_
    rw [Nat.pow_zero, Nat.mul_one, Nat.mul_comm]
    exact Nat.mul_le_mul_left _ h1
  refine ⟨?_, ?_, ?_⟩
  · unfold finW
    rw [rg_word _ _ (rnd_inf _ _ _)]
    exact decide_eq_true (Nat.lt_of_le_of_lt hr (finW_lt hc))
  · rw [nn_word _ _ (rnd_inf _ _ _)]; simp
  · rw [mg_word _ _ (rnd_inf _ _ _)]
    exact rungV_le _ hr
theorem mix_between {a b f : Nat} (ha : finW .f32 a = true) (hb : finW .f32 b = true) (hf : rg FloatKind.f32.format f ≤ 1065353216) (hn : nn .f32 f = false) (hc : finW .f32 (fop .sub .f32 b a) = true) (hd : vl .f32 (fop .sub .f32 b a) = vl .f32 b - vl .f32 a) :
    (vl .f32 a ≤ vl .f32 b → srung FloatKind.f32.format a ≤ srung FloatKind.f32.format (fop .add .f32 a (fop .mul .f32 f (fop .sub .f32 b a))) ∧ srung FloatKind.f32.format (fop .add .f32 a (fop .mul .f32 f (fop .sub .f32 b a))) ≤ srung FloatKind.f32.format b) ∧
    (vl .f32 b ≤ vl .f32 a → srung FloatKind.f32.format b ≤ srung FloatKind.f32.format (fop .add .f32 a (fop .mul .f32 f (fop .sub .f32 b a))) ∧ srung FloatKind.f32.format (fop .add .f32 a (fop .mul .f32 f (fop .sub .f32 b a))) ≤ srung FloatKind.f32.format a) := by
  obtain ⟨p1, p2, p3⟩ := mul_unit hf hn hc
  generalize hp : fop .mul .f32 f (fop .sub .f32 b a) = p at *
  generalize hq : fop .sub .f32 b a = c at *
  have hv : vl .f32 p = sg (nn .f32 c) (mg .f32 p) := by unfold vl; rw [p2]
  have hvc : vl .f32 c = sg (nn .f32 c) (mg .f32 c) := rfl
  constructor
  · intro h
    have h0 : 0 ≤ vl .f32 c := by omega
    have k : 0 ≤ vl .f32 p ∧ vl .f32 p ≤ vl .f32 c := by
      rw [hv, hvc]
      rw [hvc] at h0
      revert h0
      cases nn .f32 c <;> simp only [sg, Bool.false_eq_true, if_false, if_true] <;> omega
    exact ⟨sum_ge ha p1 ha (by omega), sum_le ha p1 hb (by omega)⟩
  · intro h
    have h0 : vl .f32 c ≤ 0 := by omega
    have k : vl .f32 c ≤ vl .f32 p ∧ vl .f32 p ≤ 0 := by
      rw [hv, hvc]
      rw [hvc] at h0
      revert h0
      cases nn .f32 c <;> simp only [sg, Bool.false_eq_true, if_false, if_true] <;> omega
    exact ⟨sum_ge ha p1 hb (by omega), sum_le ha p1 ha (by omega)⟩
theorem quo_unit {x y : Nat} (hx : finW .f32 x = true) (hy : finW .f32 y = true) (sx : nn .f32 x = false) (sy : nn .f32 y = false) (h0 : 0 < mg .f32 y) (hle : mg .f32 x ≤ mg .f32 y) :
    nn .f32 (fop .quo .f32 x y) = false ∧ rg FloatKind.f32.format (fop .quo .f32 x y) ≤ 1065353216 := by
  obtain ⟨m, a, h1, h2⟩ := fin_read hx
  obtain ⟨n, b, h3, h4⟩ := fin_read hy
  have hn : n ≠ 0 := by
    rintro rfl
    rw [Nat.zero_mul] at h4
    omega
  have e : fop .quo .f32 x y = FloatKind.f32.format.nearest (nn .f32 x ^^ nn .f32 y) (2 * (m <<< (FloatKind.f32.format.fractionBits + 2 + n.log2 - m.log2) / n) + ((m <<< (FloatKind.f32.format.fractionBits + 2 + n.log2 - m.log2) % n != 0) : Bool).toNat) (lp .f32 + a - (lp .f32 + b) - (FloatKind.f32.format.fractionBits + 2 + n.log2 - m.log2 : Nat) - 1) := by
    unfold fop floatBits Ieee.Format.div
    simp only [h1, h3, Ieee.Datum.quotient]
    rw [if_neg hn]
    rfl
  have hlp : lp .f32 = -149 := by decide +kernel
  have hlp2 : FloatKind.f32.format.leastPlace = -149 := hlp
  rw [e, (nearest_word _ _ _ _).1, rg_word _ _ (rnd_inf _ _ _), nn_word _ _ (rnd_inf _ _ _), sx, sy]
  refine ⟨rfl, ?_⟩
  generalize hmore : FloatKind.f32.format.fractionBits + 2 + n.log2 - m.log2 = more
  rw [Nat.shiftLeft_eq]
  by_cases hm : m = 0
  · subst hm
    simp [rnd_zero]
  · have hD : n ≤ m * 2 ^ more := by
      have q1 : 2 ^ m.log2 ≤ m := Nat.log2_self_le hm
      have q2 : n < 2 ^ (n.log2 + 1) := Nat.lt_log2_self
      have q3 : 2 ^ (n.log2 + 1) ≤ 2 ^ (m.log2 + more) := Nat.pow_le_pow_right (by omega) (by omega)
      rw [Nat.pow_add 2 m.log2 more] at q3
      have q4 := Nat.mul_le_mul_right (2 ^ more) q1
      omega
    have key : m * 2 ^ more * 2 ^ a ≤ n * 2 ^ b * 2 ^ more := by
      rw [Nat.mul_right_comm, h2, h4]
      exact Nat.mul_le_mul_right _ hle
    generalize hDD : m * 2 ^ more = D at hD key ⊢
    have hdm := Nat.div_add_mod D n
    have hmod := Nat.mod_lt D (show 0 < n by omega)
    refine rnd_le _ (u := 149 + a) (v := b + more + 1) (by rw [hlp2, hlp]; omega) ?_
    rw [show rungV FloatKind.f32.format 1065353216 = 2 ^ 149 by decide +kernel]
    have hP : (2 * (D / n) + ((D % n != 0) : Bool).toNat) * 2 ^ a ≤ 2 * (2 ^ b * 2 ^ more) := by
      by_cases hz : D % n = 0
      · rw [hz]
        simp only [bne_self_eq_false, Bool.toNat_false, Nat.add_zero]
        have h6 : D / n * 2 ^ a ≤ 2 ^ b * 2 ^ more := by
          refine Nat.le_of_mul_le_mul_left (c := n) ?_ (by omega)
          rw [← Nat.mul_assoc, show n * (D / n) = D by omega, ← Nat.mul_assoc]
          exact key
        rw [Nat.mul_assoc]
        exact Nat.mul_le_mul_left 2 h6
      · have hbit : ((D % n != 0) : Bool).toNat = 1 := by
          have : (D % n != 0) = true := by simpa using hz
          rw [this]; rfl
        rw [hbit]
        rcases Nat.le_total a (b + more) with hab | hab
        · obtain ⟨j, hj⟩ : ∃ j, b + more = a + j := ⟨b + more - a, by omega⟩
          rw [← Nat.pow_add, hj, Nat.pow_add]
          rw [Nat.mul_assoc n, ← Nat.pow_add, hj, Nat.pow_add, ← Nat.mul_assoc, Nat.mul_right_comm] at key
          have h7 : D ≤ n * 2 ^ j := Nat.le_of_mul_le_mul_right key (Nat.two_pow_pos a)
          have h8 : D / n < 2 ^ j := by
            refine (Nat.div_lt_iff_lt_mul (by omega)).2 ?_
            rw [Nat.mul_comm]
            rcases Nat.lt_or_ge D (n * 2 ^ j) with h | h
            · exact h
            · have : D = n * 2 ^ j := by omega
              exact absurd (by rw [this, Nat.mul_mod_right]) hz
          have h9 := Nat.mul_le_mul_right (2 ^ a) (show 2 * (D / n) + 1 ≤ 2 * 2 ^ j by omega)
          refine Nat.le_trans h9 ?_
          rw [Nat.mul_assoc, Nat.mul_comm (2 ^ j)]
          exact Nat.le_refl _
        · exfalso
          obtain ⟨j, hj⟩ : ∃ j, a = b + more + j := ⟨a - (b + more), by omega⟩
          rw [hj, Nat.mul_assoc n, ← Nat.pow_add, Nat.pow_add 2 (b + more) j, Nat.mul_left_comm, Nat.mul_comm] at key
          have key2 : D * 2 ^ j ≤ n := by
            refine Nat.le_of_mul_le_mul_right (c := 2 ^ (b + more)) ?_ (Nat.two_pow_pos _)
            exact key
          have : D ≤ D * 2 ^ j := Nat.le_mul_of_pos_right _ (Nat.two_pow_pos j)
          have hDn : D = n := by omega
          exact hz (by rw [hDn, Nat.mod_self])
    generalize 2 * (D / n) + ((D % n != 0) : Bool).toNat = P at hP ⊢
    rw [Nat.pow_add 2 149 a, show P * (2 ^ 149 * 2 ^ a) = P * 2 ^ a * 2 ^ 149 by simp only [Nat.mul_assoc, Nat.mul_comm, Nat.mul_left_comm], Nat.mul_comm (2 ^ 149)]
    refine Nat.mul_le_mul_right _ (Nat.le_trans hP ?_)
    rw [Nat.pow_succ, Nat.pow_add, Nat.mul_comm]
    exact Nat.le_refl _
theorem grid_rung (f : Ieee.Format) {c e : Nat} (hc : c ≤ f.binade) (he : (e + 2) * f.binade ≤ f.infRung) : ∃ r, r < f.infRung ∧ rungV f r = c * 2 ^ e := by
  have hb := binade_pos f
  have hbin : f.binade = 2 ^ f.fractionBits := rfl
  have e2 : (e + 2) * f.binade = e * f.binade + 2 * f.binade := Nat.add_mul _ _ _
  by_cases h0 : c = 0
  · subst h0
    refine ⟨0, by omega, ?_⟩
    rw [rungV_zero, Nat.zero_mul]
  · have hlo : 2 ^ c.log2 ≤ c := Nat.log2_self_le h0
    have hhi : c < 2 ^ (c.log2 + 1) := Nat.lt_log2_self
    have hL : c.log2 ≤ f.fractionBits := by
      rcases Nat.lt_or_ge f.fractionBits c.log2 with h | h
      · have h1 : 2 ^ (f.fractionBits + 1) ≤ 2 ^ c.log2 := Nat.pow_le_pow_right (by decide) h
        rw [Nat.pow_succ, ← hbin] at h1
        omega
      · exact h
    by_cases h1 : c.log2 + e ≤ f.fractionBits
    · have hq : c * 2 ^ e ≤ 2 * f.binade := by
        have h2 : c * 2 ^ e ≤ 2 ^ (c.log2 + 1) * 2 ^ e := Nat.mul_le_mul_right _ (Nat.le_of_lt hhi)
        rw [← Nat.pow_add] at h2
        have h3 : 2 ^ (c.log2 + 1 + e) ≤ 2 ^ (f.fractionBits + 1) := Nat.pow_le_pow_right (by decide) (by omega)
        rw [Nat.pow_succ 2 f.fractionBits, ← hbin] at h3
        omega
      have hq2 : c * 2 ^ e < 2 * f.binade := by
        have h2 : c * 2 ^ e < 2 ^ (c.log2 + 1) * 2 ^ e := Nat.mul_lt_mul_of_pos_right hhi (Nat.two_pow_pos e)
        rw [← Nat.pow_add] at h2
        have h3 : 2 ^ (c.log2 + 1 + e) ≤ 2 ^ (f.fractionBits + 1) := Nat.pow_le_pow_right (by decide) (by omega)
        rw [Nat.pow_succ 2 f.fractionBits, ← hbin] at h3
        omega
      refine ⟨c * 2 ^ e, by omega, ?_⟩
      have := rungV_split f (d := 0) (q := c * 2 ^ e) (.inl rfl) hq
      simpa using this
    · obtain ⟨d, hd⟩ : ∃ d, c.log2 + e = f.fractionBits + d := ⟨c.log2 + e - f.fractionBits, by omega⟩
      obtain ⟨g, hg⟩ : ∃ g, f.fractionBits = c.log2 + g := ⟨f.fractionBits - c.log2, by omega⟩
      have q1 : f.binade ≤ c * 2 ^ g := by
        have := Nat.mul_le_mul_right (2 ^ g) hlo
        rw [← Nat.pow_add, ← hg, ← hbin] at this
        exact this
      have q2 : c * 2 ^ g ≤ 2 * f.binade := by
        have := Nat.mul_le_mul_right (2 ^ g) (Nat.le_of_lt hhi)
        rw [← Nat.pow_add, show c.log2 + 1 + g = f.fractionBits + 1 by omega, Nat.pow_succ, ← hbin] at this
        omega
      have hde : d * f.binade ≤ e * f.binade := Nat.mul_le_mul_right _ (by omega)
      have q3 : c * 2 ^ g < 2 * f.binade := by
        have := Nat.mul_lt_mul_of_pos_right hhi (Nat.two_pow_pos g)
        rw [← Nat.pow_add, show c.log2 + 1 + g = f.fractionBits + 1 by omega, Nat.pow_succ, ← hbin] at this
        omega
      refine ⟨d * f.binade + c * 2 ^ g, by omega, ?_⟩
      rw [rungV_split f (.inr q1) q2, Nat.mul_assoc, ← Nat.pow_add, show g + d = e by omega]
theorem rnd_close (f : Ieee.Format) {m e s : Nat} {place : Int} (hp : place + (s : Int) = f.leastPlace) (he : (e + 2) * f.binade ≤ f.infRung) (hm : m < f.binade * 2 ^ (e + s)) :
    rungV f (rnd f m place) * 2 ^ s ≤ m + 2 ^ (e + s) ∧ m ≤ rungV f (rnd f m place) * 2 ^ s + 2 ^ (e + s) ∧ rnd f m place < f.infRung := by
  have hP := Nat.two_pow_pos (e + s)
  have hdm := Nat.div_add_mod m (2 ^ (e + s))
  have hmod := Nat.mod_lt m hP
  have hc : m / 2 ^ (e + s) < f.binade := (Nat.div_lt_iff_lt_mul hP).2 hm
  generalize m / 2 ^ (e + s) = c at hdm hc
  rw [Nat.mul_comm] at hdm
  obtain ⟨lo, l1, l2⟩ := grid_rung f (c := c) (e := e) (by omega) he
  obtain ⟨hi, h1, h2⟩ := grid_rung f (c := c + 1) (e := e) (by omega) he
  have el : rungV f lo * 2 ^ s = c * 2 ^ (e + s) := by rw [l2, Nat.mul_assoc, ← Nat.pow_add]
  have eh : rungV f hi * 2 ^ s = c * 2 ^ (e + s) + 2 ^ (e + s) := by rw [h2, Nat.mul_assoc, ← Nat.pow_add, Nat.add_mul, Nat.one_mul]
  have a1 : lo ≤ rnd f m place := le_rnd f (u := 0) (v := s) (by omega) (by omega) (by rw [el, Nat.pow_zero, Nat.mul_one]; omega)
  have a2 : rnd f m place ≤ hi := rnd_le f (u := 0) (v := s) (by omega) (by rw [eh, Nat.pow_zero, Nat.mul_one]; omega)
  have b1 := Nat.mul_le_mul_right (2 ^ s) (rungV_le f a1)
  have b2 := Nat.mul_le_mul_right (2 ^ s) (rungV_le f a2)
  rw [el] at b1
  rw [eh] at b2
  exact ⟨by omega, by omega, by omega⟩
theorem sum_close {k : FloatKind} {x y : Nat} (e : Nat) (hx : finW k x = true) (hy : finW k y = true) (he : (e + 2) * k.format.binade ≤ k.format.infRung) (hm : (vl k x + vl k y).natAbs < k.format.binade * 2 ^ e) :
    finW k (fop .add k x y) = true ∧ (vl k (fop .add k x y) - (vl k x + vl k y)).natAbs ≤ 2 ^ e := by
  rw [add_word hx hy]
  generalize vl k x + vl k y = V at *
  obtain ⟨h1, h2, h3⟩ := rnd_close k.format (s := 0) (place := lp k) (e := e) (by unfold lp; omega) he (by simpa using hm)
  simp only [Nat.pow_zero, Nat.mul_one, Nat.add_zero] at h1 h2
  refine ⟨?_, ?_⟩
  · unfold finW; rw [rg_word _ _ (rnd_inf _ _ _)]; exact decide_eq_true h3
  · unfold vl
    rw [nn_word _ _ (rnd_inf _ _ _), mg_word _ _ (rnd_inf _ _ _)]
    unfold sgn0
    by_cases h0 : V = 0
    · subst h0
      rw [show (0 : Int).natAbs = 0 from rfl, rnd_zero, rungV_zero]
      cases (if (0 : Int) = 0 then nn k x && nn k y else decide ((0 : Int) < 0)) <;> simp [sg]
    · rw [if_neg h0]
      by_cases hV : V < 0
      · rw [decide_eq_true hV]; simp only [sg, if_true]; omega
      · rw [decide_eq_false hV]; simp only [sg, Bool.false_eq_true, if_false]; omega
theorem diff_close {k : FloatKind} {x y : Nat} (e : Nat) (hx : finW k x = true) (hy : finW k y = true) (he : (e + 2) * k.format.binade ≤ k.format.infRung) (hm : (vl k x - vl k y).natAbs < k.format.binade * 2 ^ e) :
    finW k (fop .sub k x y) = true ∧ (vl k (fop .sub k x y) - (vl k x - vl k y)).natAbs ≤ 2 ^ e := by
  rw [sub_word hx hy]
  generalize vl k x - vl k y = V at *
  obtain ⟨h1, h2, h3⟩ := rnd_close k.format (s := 0) (place := lp k) (e := e) (by unfold lp; omega) he (by simpa using hm)
  simp only [Nat.pow_zero, Nat.mul_one, Nat.add_zero] at h1 h2
  refine ⟨?_, ?_⟩
  · unfold finW; rw [rg_word _ _ (rnd_inf _ _ _)]; exact decide_eq_true h3
  · unfold vl
    rw [nn_word _ _ (rnd_inf _ _ _), mg_word _ _ (rnd_inf _ _ _)]
    unfold sgn0
    by_cases h0 : V = 0
    · subst h0
      rw [show (0 : Int).natAbs = 0 from rfl, rnd_zero, rungV_zero]
      cases (if (0 : Int) = 0 then nn k x && !nn k y else decide ((0 : Int) < 0)) <;> simp [sg]
    · rw [if_neg h0]
      by_cases hV : V < 0
      · rw [decide_eq_true hV]; simp only [sg, if_true]; omega
      · rw [decide_eq_false hV]; simp only [sg, Bool.false_eq_true, if_false]; omega
theorem sg_mul (a b : Bool) (m n : Nat) : sg a m * sg b n = sg (a ^^ b) (m * n) := by
  cases a <;> cases b <;> simp [sg, Int.natCast_mul, Int.neg_mul, Int.mul_neg]
theorem prod_close {k : FloatKind} {x y s : Nat} (e : Nat) (hs : lp k + (s : Int) = 0) (hx : finW k x = true) (hy : finW k y = true) (he : (e + 2) * k.format.binade ≤ k.format.infRung) (hm : (vl k x * vl k y).natAbs < k.format.binade * 2 ^ (e + s)) :
    finW k (fop .mul k x y) = true ∧ (vl k (fop .mul k x y) * 2 ^ s - vl k x * vl k y).natAbs ≤ 2 ^ (e + s) := by
  have hv : vl k x * vl k y = sg (nn k x ^^ nn k y) (mg k x * mg k y) := sg_mul _ _ _ _
  rw [hv, sg_abs] at hm
  rw [mul_word hx hy, hv]
  obtain ⟨h1, h2, h3⟩ := rnd_close k.format (s := s) (place := lp k + lp k) (e := e) (by unfold lp at *; omega) he hm
  refine ⟨?_, ?_⟩
  · unfold finW; rw [rg_word _ _ (rnd_inf _ _ _)]; exact decide_eq_true h3
  · unfold vl
    rw [nn_word _ _ (rnd_inf _ _ _), mg_word _ _ (rnd_inf _ _ _)]
    generalize rungV k.format (rnd k.format (mg k x * mg k y) (lp k + lp k)) = R at *
    have c2 : ((2 : Int) ^ s) = ((2 ^ s : Nat) : Int) := by simp
    rw [c2, ← sg_scale]
    cases (nn k x ^^ nn k y) <;> simp only [sg, Bool.false_eq_true, if_false, if_true] <;> omega
theorem cmp_vl (k : FloatKind) (x y : Nat) : compare (vl k x) (vl k y) = compare (srung k.format x) (srung k.format y) := cmp_sg k.format (nn k x) (nn k y) (rg k.format x) (rg k.format y)
theorem vl_lt {k : FloatKind} {x y : Nat} : vl k x < vl k y ↔ srung k.format x < srung k.format y := by
  have h := cmp_vl k x y
  rw [cmp_int, cmp_int] at h
  constructor
  · intro h1
    rw [if_pos h1] at h
    by_cases h2 : srung k.format x < srung k.format y
    · exact h2
    · rw [if_neg h2] at h
      split at h <;> cases h
  · intro h1
    rw [if_pos h1] at h
    by_cases h2 : vl k x < vl k y
    · exact h2
    · rw [if_neg h2] at h
      split at h <;> cases h
theorem vl_le {k : FloatKind} {x y : Nat} : vl k x ≤ vl k y ↔ srung k.format x ≤ srung k.format y := by
  have := @vl_lt k y x
  omega
theorem vl_eq {k : FloatKind} {x y : Nat} : vl k x = vl k y ↔ srung k.format x = srung k.format y := by
  have h1 := @vl_le k x y
  have h2 := @vl_le k y x
  omega
theorem fcmp_vl {k : FloatKind} {x y : Nat} (hx : finW k x = true) (hy : finW k y = true) :
    fcmp .eql k x y = decide (vl k x = vl k y) ∧ fcmp .neq k x y = !decide (vl k x = vl k y) ∧ fcmp .lss k x y = decide (vl k x < vl k y) ∧
    fcmp .leq k x y = decide (vl k x ≤ vl k y) ∧ fcmp .gtr k x y = decide (vl k y < vl k x) ∧ fcmp .geq k x y = decide (vl k y ≤ vl k x) := by
  obtain ⟨h1, h2, h3, h4, h5, h6⟩ := fcmp_num k (finW_nan hx) (finW_nan hy)
  rw [h1, h2, h3, h4, h5, h6]
  refine ⟨decide_eq_decide.2 vl_eq.symm, ?_, decide_eq_decide.2 vl_lt.symm, decide_eq_decide.2 vl_le.symm, decide_eq_decide.2 vl_lt.symm, decide_eq_decide.2 vl_le.symm⟩
  rw [decide_eq_decide.2 (vl_eq (k := k) (x := x) (y := y)).symm]
theorem rung_grid {f : Ieee.Format} {r : Nat} (h : r < f.infRung) : ∃ c e, c < 2 * f.binade ∧ rungV f r = c * 2 ^ e ∧ e * f.binade ≤ r := by
  have hb := binade_pos f
  unfold rungV
  by_cases h0 : r < f.binade
  · rw [if_pos h0]
    exact ⟨r, 0, by omega, by rw [Nat.pow_zero, Nat.mul_one], by omega⟩
  · rw [if_neg h0]
    have := Nat.mod_lt r hb
    have hd := Nat.div_add_mod r f.binade
    have h2 : (r / f.binade - 1) * f.binade ≤ r := by
      refine Nat.le_trans (Nat.mul_le_mul_right _ (Nat.sub_le _ _)) ?_
      rw [Nat.mul_comm]; omega
    exact ⟨f.binade + r % f.binade, r / f.binade - 1, by omega, rfl, h2⟩
theorem up_vl {x : Nat} (hx : finW .f32 x = true) : finW .f64 (fcvV .f32 .f64 x) = true ∧ vl .f64 (fcvV .f32 .f64 x) = vl .f32 x * 2 ^ 925 := by
  rw [up_eq hx]
  obtain ⟨c, e, h1, h2, h3⟩ := rung_grid (finW_lt hx)
  have hlt := finW_lt hx
  have b32 : FloatKind.f32.format.binade = 8388608 := by decide
  have i32 : FloatKind.f32.format.infRung = 2139095040 := by decide
  have b64 : FloatKind.f64.format.binade = 4503599627370496 := by decide
  have i64 : FloatKind.f64.format.infRung = 9218868437227405312 := by decide
  rw [b32] at h1 h3
  rw [i32] at hlt
  have he : e < 255 := by
    clear h2 b64 i64
    omega
  have hh : (e + 925 + 2) * 4503599627370496 ≤ 9218868437227405312 := Nat.le_trans (Nat.mul_le_mul_right _ (show e + 925 + 2 ≤ 1182 by omega)) (by decide)
  obtain ⟨r, r1, r2⟩ := grid_rung FloatKind.f64.format (c := c) (e := e + 925) (by rewrite [b64]; omega) (by rewrite [b64, i64]; exact hh)
  have hm : mg .f32 x * 2 ^ 925 = rungV FloatKind.f64.format r * 2 ^ 0 := by
    unfold mg
    rw [h2, r2, Nat.pow_add, Nat.pow_zero, Nat.mul_one, Nat.mul_assoc]
  have hr : rnd Ieee.double (mg .f32 x) (lp .f32) = r := rnd_exact FloatKind.f64.format (u := 925) (v := 0) (Nat.le_of_lt r1) (by decide +kernel) hm
  rw [hr]
  have hw : finW .f64 (Ieee.double.word (nn .f32 x) r) = true := by
    unfold finW
    have := rg_word .f64 (nn .f32 x) (Nat.le_of_lt r1)
    exact decide_eq_true (by show rg FloatKind.f64.format (FloatKind.f64.format.word _ r) < _; rw [this]; exact r1)
  refine ⟨hw, ?_⟩
  show sg (nn .f64 (FloatKind.f64.format.word (nn .f32 x) r)) (mg .f64 (FloatKind.f64.format.word (nn .f32 x) r)) = _
  rw [nn_word _ _ (Nat.le_of_lt r1), mg_word _ _ (Nat.le_of_lt r1)]
  rw [Nat.pow_zero, Nat.mul_one] at hm
  rw [← hm, sg_scale]
  unfold vl
  have c2 : ((2 ^ 925 : Nat) : Int) = (2 : Int) ^ 925 := Int.natCast_pow 2 925
  rw [c2]
theorem neg_parts {k : FloatKind} {x : Nat} (h : nanB k x = false) : rg k.format (fneg k x) = rg k.format x ∧ nn k (fneg k x) = !nn k x := by
  have e : fneg k x = x ^^^ 2 ^ (k.format.exponentBits + k.format.fractionBits) := by
    unfold fneg
    rw [h, if_neg (by decide)]
    rfl
  have hw : k.format.signWeight = 2 ^ (k.format.exponentBits + k.format.fractionBits) := by cases k <;> decide
  rw [e]
  generalize k.format.exponentBits + k.format.fractionBits = n at *
  constructor
  · show (x ^^^ 2 ^ n) % k.format.signWeight = x % k.format.signWeight
    rw [hw, Nat.xor_mod_two_pow, Nat.mod_self, Nat.xor_zero]
  · show ((x ^^^ 2 ^ n) / k.format.signWeight % 2 == 1) = !(x / k.format.signWeight % 2 == 1)
    rw [hw]
    have h1 := @Nat.testBit_xor x (2 ^ n) n
    rw [Nat.testBit_two_pow_self, Nat.testBit_eq_decide_div_mod_eq, Nat.testBit_eq_decide_div_mod_eq] at h1
    have h2 : ∀ a : Nat, (a == 1) = decide (a = 1) := fun a => rfl
    rw [h2, h2, h1]
    simp
theorem neg_vl {k : FloatKind} {x : Nat} (h : finW k x = true) : finW k (fneg k x) = true ∧ vl k (fneg k x) = -vl k x := by
  obtain ⟨h1, h2⟩ := neg_parts (finW_nan h)
  refine ⟨?_, ?_⟩
  · unfold finW; rw [h1]; exact h
  · unfold vl mg
    rw [h1, h2, sg_not]
theorem gap64 {a b : Nat} (ha : finW .f64 a = true) (hb : finW .f64 b = true) (h : (vl .f64 a - vl .f64 b).natAbs ≤ 2 ^ 1060) :
    finW .f64 (fop .sub .f64 a b) = true ∧ fcmp .gtr .f64 (fop .sub .f64 a b) 4562254508917369340 = false := by
  have hlt : (2 : Nat) ^ 1060 < FloatKind.f64.format.binade * 2 ^ 1020 := by decide +kernel
  obtain ⟨h1, h2⟩ := diff_close 1020 ha hb (by decide +kernel) (Nat.lt_of_le_of_lt h hlt)
  refine ⟨h1, ?_⟩
  rw [(fcmp_vl h1 (by decide +kernel)).2.2.2.2.1]
  have hv : ((2 ^ 1061 : Nat) : Int) ≤ vl .f64 4562254508917369340 := by decide +kernel
  have e1 : (2 : Nat) ^ 1060 + 2 ^ 1020 ≤ 2 ^ 1061 := by decide +kernel
  generalize (2 : Nat) ^ 1060 = A at *
  generalize (2 : Nat) ^ 1020 = B at *
  generalize (2 : Nat) ^ 1061 = C at *
  generalize vl .f64 4562254508917369340 = D at *
  exact decide_eq_false (by omega)
theorem sub_same {k : FloatKind} {x y x' y' : Nat} (hx : finW k x = true) (hy : finW k y = true) (hx' : finW k x' = true) (hy' : finW k y' = true) (h : vl k x - vl k y = vl k x' - vl k y') :
    finW k (fop .sub k x y) = finW k (fop .sub k x' y') ∧ vl k (fop .sub k x y) = vl k (fop .sub k x' y') := by
  rw [sub_word hx hy, sub_word hx' hy', ← h]
  generalize vl k x - vl k y = V
  refine ⟨?_, ?_⟩
  · unfold finW; rw [rg_word _ _ (rnd_inf _ _ _), rg_word _ _ (rnd_inf _ _ _)]
  · unfold vl
    rw [nn_word _ _ (rnd_inf _ _ _), mg_word _ _ (rnd_inf _ _ _), nn_word _ _ (rnd_inf _ _ _), mg_word _ _ (rnd_inf _ _ _)]
    unfold sgn0
    by_cases h0 : V = 0
    · subst h0
      rw [show (0 : Int).natAbs = 0 from rfl, rnd_zero, rungV_zero]
      have hz : ∀ s, sg s 0 = 0 := by intro s; cases s <;> rfl
      rw [hz, hz]
    · rw [if_neg h0, if_neg h0]
theorem cancel_le {a b w : Int} (hw : 0 < w) (h : a * w ≤ b * w) : a ≤ b := Int.le_of_mul_le_mul_right h hw
theorem near_law {A B P Q X Y W T : Int} (hw : 0 < W) (p1 : P * W - X ≤ T * W) (p2 : X - P * W ≤ T * W) (q1 : Q * W - Y ≤ T * W) (q2 : Y - Q * W ≤ T * W)
    (k1 : X + Y - W * (B - A) ≤ T * W) (k2 : W * (B - A) - X - Y ≤ T * W) : P + Q - (B - A) ≤ 3 * T ∧ (B - A) - P - Q ≤ 3 * T := by
  have e : W * (B - A) = (B - A) * W := Int.mul_comm _ _
  rw [e] at k1 k2
  constructor
  · refine cancel_le hw ?_
    rw [Int.sub_mul, Int.add_mul, Int.mul_assoc]
    omega
  · refine cancel_le hw ?_
    rw [Int.sub_mul, Int.sub_mul (B - A) P, Int.mul_assoc]
    omega
theorem prod_le {P X W T N : Int} (hw : 0 < W) (p1 : P * W - X ≤ T * W) (p2 : X - P * W ≤ T * W) (h1 : X ≤ N * W) (h2 : -X ≤ N * W) : P ≤ N + T ∧ -P ≤ N + T := by
  constructor
  · refine cancel_le hw ?_
    rw [Int.add_mul]
    omega
  · refine cancel_le hw ?_
    rw [Int.add_mul, Int.neg_mul]
    omega
theorem abs_two {x : Int} {n : Nat} : x.natAbs ≤ n ↔ x ≤ n ∧ -x ≤ n := by omega
set_option exponentiation.threshold 600 in
theorem mirror_near {a b f g : Nat} {T W : Nat} (hT : T = 2 ^ 130) (hW : W = 2 ^ 149) (ha : finW .f32 a = true) (hb : finW .f32 b = true) (ba : (vl .f32 a).natAbs ≤ 2097152 * T) (bb : (vl .f32 b).natAbs ≤ 2097152 * T)
    (hc : finW .f32 (fop .sub .f32 b a) = true) (hd : vl .f32 (fop .sub .f32 b a) = vl .f32 b - vl .f32 a)
    (hf : finW .f32 f = true) (hg : finW .f32 g = true) (bf : (vl .f32 f).natAbs ≤ W) (bg : (vl .f32 g).natAbs ≤ W) (hfg : 4194304 * (vl .f32 f + vl .f32 g - W).natAbs ≤ W) :
    finW .f32 (fop .add .f32 a (fop .mul .f32 f (fop .sub .f32 b a))) = true ∧
    finW .f32 (fop .add .f32 (fneg .f32 b) (fop .mul .f32 g (fop .sub .f32 (fneg .f32 a) (fneg .f32 b)))) = true ∧
    (vl .f32 (fop .add .f32 (fneg .f32 b) (fop .mul .f32 g (fop .sub .f32 (fneg .f32 a) (fneg .f32 b)))) + vl .f32 (fop .add .f32 a (fop .mul .f32 f (fop .sub .f32 b a)))).natAbs ≤ 7 * T := by
  obtain ⟨na, va⟩ := neg_vl ha
  obtain ⟨nb, vb⟩ := neg_vl hb
  obtain ⟨s1, s2⟩ := sub_same na nb hb ha (by rw [va, vb]; omega)
  rw [hc] at s1
  rw [hd] at s2
  generalize fop .sub .f32 (fneg .f32 a) (fneg .f32 b) = c' at *
  generalize fop .sub .f32 b a = c at *
  have hl : lp .f32 + ((149 : Nat) : Int) = 0 := by decide +kernel
  have hW0 : 0 < W := by rw [hW]; exact Nat.two_pow_pos _
  have hT0 : 0 < T := by rw [hT]; exact Nat.two_pow_pos _
  have bc : (vl .f32 b - vl .f32 a).natAbs ≤ 4194304 * T := by omega
  have hTW : (2 : Nat) ^ (130 + 149) = T * W := by rw [Nat.pow_add, hT, hW]
  have hbin : FloatKind.f32.format.binade * 2 ^ (130 + 149) = 8388608 * (T * W) := by rw [hTW]; rfl
  have hbin2 : FloatKind.f32.format.binade * 2 ^ 131 = 16777216 * T := by rw [hT]; decide +kernel
  have h131 : (2 : Nat) ^ 131 = 2 * T := by rw [hT]
  have hW2 : ((2 : Int) ^ 149) = (W : Int) := by rw [hW]; exact (Int.natCast_pow 2 149).symm
  have lim : ∀ x : Int, x.natAbs ≤ W → (x * (vl .f32 b - vl .f32 a)).natAbs ≤ 4194304 * (T * W) := by
    intro x hx
    rw [Int.natAbs_mul]
    have := Nat.mul_le_mul hx bc
    rw [show W * (4194304 * T) = 4194304 * (T * W) by rw [Nat.mul_left_comm, Nat.mul_comm W]] at this
    exact this
  have hTW0 : 0 < T * W := Nat.mul_pos hT0 hW0
  have m1 := lim _ bf
  have m2 := lim _ bg
  obtain ⟨p1, p2⟩ := prod_close 130 hl hf hc (by decide +kernel) (by rw [hd, hbin]; omega)
  obtain ⟨q1, q2⟩ := prod_close 130 hl hg s1 (by decide +kernel) (by rw [s2, hbin]; omega)
  rw [hd, hTW, hW2] at p2
  rw [s2, hTW, hW2] at q2
  have key : ((vl .f32 f + vl .f32 g - W) * (vl .f32 b - vl .f32 a)).natAbs ≤ T * W := by
    rw [Int.natAbs_mul]
    have := Nat.mul_le_mul hfg bc
    rw [show W * (4194304 * T) = 4194304 * (T * W) by rw [Nat.mul_left_comm, Nat.mul_comm W], Nat.mul_assoc] at this
    omega
  rw [Int.sub_mul, Int.add_mul] at key
  clear hT hW hTW hbin hW2 lim
  generalize fop .mul .f32 f c = p at *
  generalize fop .mul .f32 g c' = q at *
  generalize vl .f32 f * (vl .f32 b - vl .f32 a) = X at *
  generalize vl .f32 g * (vl .f32 b - vl .f32 a) = Y at *
  have eTW : ((T * W : Nat) : Int) = (T : Int) * W := Int.natCast_mul _ _
  have pp := abs_two.1 p2
  have qq := abs_two.1 q2
  have kk := abs_two.1 key
  have mm1 := abs_two.1 m1
  have mm2 := abs_two.1 m2
  rw [Int.natCast_mul, eTW, ← Int.mul_assoc] at mm1 mm2
  rw [eTW] at pp qq kk
  have hWi : (0 : Int) < W := by omega
  have r1 := prod_le (N := ((4194304 : Nat) : Int) * T) hWi (by omega) (by omega) mm1.1 mm1.2 (P := vl .f32 p) (T := T)
  have r2 := prod_le (N := ((4194304 : Nat) : Int) * T) hWi (by omega) (by omega) mm2.1 mm2.2 (P := vl .f32 q) (T := T)
  have r3 := near_law hWi (A := vl .f32 a) (B := vl .f32 b) (P := vl .f32 p) (Q := vl .f32 q) (X := X) (Y := Y) (T := T) (by omega) (by omega) (by omega) (by omega) (by omega) (by omega)
  clear pp qq kk mm1 mm2 key p2 q2 m1 m2
  obtain ⟨u1, u2⟩ := sum_close 131 ha p1 (by decide +kernel) (by rw [hbin2]; omega)
  obtain ⟨w1, w2⟩ := sum_close 131 nb q1 (by decide +kernel) (by rw [vb, hbin2]; omega)
  rw [vb] at w2
  rw [h131] at u2 w2
  exact ⟨u1, w1, by omega⟩
def finB (x : Nat) : Bool := fcmp .eql .f32 (fop .sub .f32 x x) 0
def leastB (x : Nat) : Bool := finB x && fcmp .geq .f32 x 0
theorem floatBits_nan {op : BinOp} {k : FloatKind} {x y : Nat} (h : nanB k x = true ∨ nanB k y = true) : floatBits op k x y = none := by
  unfold floatBits
  rcases h with h | h
  · obtain ⟨s, f, e⟩ := nan_form h
    cases op <;> simp only [Ieee.Format.add, Ieee.Format.sub, Ieee.Format.mul, Ieee.Format.div, e, sum_nan_left, product_nan_left, quotient_nan_left, Option.map_none]
  · obtain ⟨s, f, e⟩ := nan_form h
    cases op <;> simp only [Ieee.Format.add, Ieee.Format.sub, Ieee.Format.mul, Ieee.Format.div, e, sum_nan_right, product_nan_right, quotient_nan_right, Option.map_none, Ieee.Datum.opposite]
theorem fop_nan {op : BinOp} {k : FloatKind} {x y : Nat} (h : nanB k x = true ∨ nanB k y = true) : fop op k x y = qn k := by
  unfold fop
  rw [floatBits_nan h]; rfl
theorem fin_num {x : Nat} (h : finB x = true) : nanB .f32 x = false := by
  cases hn : nanB .f32 x with
  | false => rfl
  | true =>
    unfold finB at h
    rw [fop_nan (.inl hn), (fcmp_nan .f32 (.inl (nanB_qn .f32))).1] at h
    cases h
theorem nan_zero : nanB .f32 0 = false := by decide +kernel
theorem impl_IsFinite_eq (x : Nat) : z9w x = some (finB x) := rfl
theorem impl_isLeast_eq (x : Nat) : z8w x = some (leastB x) := by
  obtain ⟨h1, h2⟩ := z5f (impl_IsFinite_eq x)
  unfold z8w z8x leastB
  rw [h1, h2]
  cases finB x <;> rfl
theorem impl_areLeast_1_eq (x : Nat) : z66 x = some (!leastB x) := by
  obtain ⟨h1, h2⟩ := zmw (impl_isLeast_eq x)
  unfold z66 z6d
  rw [h1, h2]; rfl
def checkV (x : Nat) : Nat := if finB x then x else 0
theorem impl_checked_eq (x : Nat) : z6y x = some (checkV x, finB x) := by
  obtain ⟨h1, h2⟩ := z5f (impl_IsFinite_eq x)
  unfold z6y z8u checkV
  rw [h1, h2]
  cases finB x <;> rfl
theorem slices_IndexFunc_areLeast {xs : List Nat} (hl : xs.length < 281474976710656) : ∃ r : Int, z1q xs.length xs = some r ∧ leI 0 r = !xs.all leastB := by
  unfold z1q z1r
  rcases scan_all (L := z0d xs.length (Int.ofNat xs.length) xs) xs leastB (g := fun i => Int.ofNat i) (e := (Int.ofNat xs.length, false))
    (fun n i hi => by
      rw [z4t]; unfold z0q; rw [ltN_t hi, okIx_t hi, ix1, addI1 (by omega)]
      simp only [gF]
      generalize xs.getD i 0 = x
      obtain ⟨h1, h2⟩ := zla (impl_areLeast_1_eq x)
      simp only [br_if, grd_true, h1, h2]
      rcases Bool.eq_false_or_eq_true (leastB x) with h | h <;> simp [h])
    (fun n => by rw [z4t]; unfold z0q; rw [ltN_f (Nat.le_refl _)]; rfl) hl with ⟨h1, h2⟩ | ⟨j, h2, h3, h4⟩
  · obtain ⟨g1, g2, _⟩ := zau rfl h2
    exact ⟨Int.negSucc 0, by rw [g1, g2]; rfl, by rw [h1]; rfl⟩
  · obtain ⟨g1, g2, g3⟩ := zas rfl h4
    exact ⟨Int.ofNat j, by rw [g1, g2, g3]; rfl, by rw [h3]; exact decide_eq_true (by simp)⟩
theorem slices_ContainsFunc_areLeast {xs : List Nat} (hl : xs.length < 281474976710656) : z1k xs.length xs = some (!xs.all leastB) := by
  obtain ⟨r, h1, h2⟩ := slices_IndexFunc_areLeast hl
  obtain ⟨g1, g2⟩ := zch h1
  unfold z1k z1j
  rw [pF_all, g1, g2, h2]; rfl
theorem impl_areLeast_eq {xs : List Nat} (hl : xs.length < 281474976710656) : z7i xs.length xs = some (xs.all leastB) := by
  obtain ⟨g1, g2⟩ := zba (slices_ContainsFunc_areLeast hl)
  unfold z7i z7b
  rw [pF_all, g1, g2]
  simp [grd_true, bnot]
def fromToB (x low high : Nat) : Bool := fcmp .geq .f32 x low && fcmp .leq .f32 x high
theorem impl_isFromTo_eq (x low high : Nat) : z7k x low high = some (fromToB x low high) := by
  unfold z7k z7q fromToB
  rcases Bool.eq_false_or_eq_true (fcmp .geq .f32 x low) with h | h <;> simp [h, br_if]
theorem math_Signbit_eq {x : Nat} (h : nanB .f32 x = false) : z8q (fcvV .f32 .f64 x) = some (ngB Ieee.single x) := by
  have e : ltI (cvI IntKind.i64 (Int.ofNat (fcvV .f32 .f64 x))) 0 = ngB Ieee.single x := up_sign h
  unfold z8q z8v
  rw [e]
  simp only [nanQ, bnot, up_nan h, Bool.not_false, grd_true]
theorem impl_SameNumber_eq {x y : Nat} (hx : canW .f32 x) (hy : canW .f32 y) : z6c x y = some (decide (x = y)) := by
  unfold z6c z6b
  rw [neq_self, neq_self]
  cases nx : nanB .f32 x
  · cases ny : nanB .f32 y
    · obtain ⟨g1, g2⟩ := zie (math_Signbit_eq nx)
      obtain ⟨g3, g4⟩ := zie (math_Signbit_eq ny)
      rw [g1, g2, g3, g4, (fcmp_num .f32 nx ny).1]
      have h32 : (2 : Nat) ^ FloatKind.f32.format.width = 2 ^ 32 := by decide
      have key := same_word (x := x) (y := y) (by rw [← h32]; exact hx.1) (by rw [← h32]; exact hy.1)
      show (br (decide (srung Ieee.single x = srung Ieee.single y)) (some (ngB Ieee.single x == ngB Ieee.single y)) (some false)) = _
      by_cases h : srung Ieee.single x = srung Ieee.single y
      · rw [decide_eq_true h]
        show some (ngB Ieee.single x == ngB Ieee.single y) = _
        by_cases h' : ngB Ieee.single x = ngB Ieee.single y
        · rw [decide_eq_true (key.1 ⟨h, h'⟩), h']; simp
        · rw [decide_eq_false (fun e => h' (key.2 e).2)]
          simpa using h'
      · rw [decide_eq_false h, decide_eq_false (fun e => h (key.2 e).1)]
        rfl
    · rw [decide_eq_false (fun e => by subst e; rw [nx] at ny; cases ny)]
      rfl
  · cases ny : nanB .f32 y
    · rw [decide_eq_false (fun e => by subst e; rw [nx] at ny; cases ny)]
      rfl
    · have e1 : x = qn .f32 := by rw [← cn_of_nan nx]; exact hx.2.symm
      have e2 : y = qn .f32 := by rw [← cn_of_nan ny]; exact hy.2.symm
      rw [e1, e2]; simp [br]
theorem neI_self (i : Int) : neI i i = false := by simp [neI]
theorem bnot_true : bnot true = false := rfl
theorem bnot_false : bnot false = true := rfl
theorem ltN (a b : Nat) : ltI (Int.ofNat a) (Int.ofNat b) = decide (a < b) := by by_cases h : a < b <;> simp [ltI, h] <;> omega
theorem get_mem {xs : List Nat} {i : Nat} (h : i < xs.length) : xs.getD i 0 ∈ xs := by
  rw [List.getD_eq_getElem?_getD, List.getElem?_eq_getElem h]; exact List.getElem_mem _
theorem zip_getD {xs ys : List Nat} (h : ys.length = xs.length) : xs = ys ↔ ∀ j, j < xs.length → xs.getD j 0 = ys.getD j 0 := by
  constructor
  · rintro rfl _ _; rfl
  · intro k
    refine List.ext_getElem h.symm fun j h1 h2 => ?_
    have := k j h1
    simpa [List.getD_eq_getElem?_getD, h1, h2] using this
theorem slices_EqualFunc_eq {xs ys : List Nat} (hx : ∀ x ∈ xs, canW .f32 x) (hy : ∀ x ∈ ys, canW .f32 x) (hl : xs.length < 281474976710656) : z13 xs.length xs ys.length ys = some (decide (xs = ys)) := by
  unfold z13 z14
  by_cases h : ys.length = xs.length
  · have e3 : neI (Int.ofNat xs.length) (Int.ofNat ys.length) = false := by simp [neI, h]
    rw [e3, br_false]
    rcases scan (L := z09 ys.length xs.length (Int.ofNat xs.length) xs ys) (len := xs.length) (fun j => decide (xs.getD j 0 = ys.getD j 0)) (g := fun _ => ()) (e := (Int.ofNat xs.length, false))
      (fun n i hi => by
        obtain ⟨g1, g2⟩ := zl4 (impl_SameNumber_eq (hx _ (get_mem hi)) (hy _ (get_mem (show i < ys.length by omega))))
        rw [z3x]; unfold z0h; rw [ltN_t hi, okIx_t hi, ix1, addI1 (by omega), okIx_t (show i < ys.length by omega)]
        simp only [br_true, grd_true, gF, g1, g2]
        cases decide (xs.getD i 0 = ys.getD i 0) <;> rfl)
      (fun n => by rw [z3x]; unfold z0h; rw [ltN_f (Nat.le_refl _)]; rfl) xs.length 0 big (by omega) (big_gt hl) with ⟨k1, k2⟩ | ⟨j, k1, k2, k3, k4⟩
    · obtain ⟨g1, g2, _⟩ := z7r rfl k2
      rw [decide_eq_true ((zip_getD h).2 fun j hj => of_decide_eq_true (k1 j (Nat.zero_le _) hj))]
      show grd (z0l ys.length xs.length (Int.ofNat xs.length) xs ys (Int.ofNat 0)) (br (z0j ys.length xs.length (Int.ofNat xs.length) xs ys (Int.ofNat 0)) _ _) = _
      rw [g1, g2]; rfl
    · obtain ⟨g1, g2⟩ := z7t rfl k4
      rw [decide_eq_false fun e => of_decide_eq_false k3 ((zip_getD h).1 e j k2)]
      show grd (z0l ys.length xs.length (Int.ofNat xs.length) xs ys (Int.ofNat 0)) (br (z0j ys.length xs.length (Int.ofNat xs.length) xs ys (Int.ofNat 0)) _ _) = _
      rw [g1, g2]; rfl
  · have e3 : neI (Int.ofNat xs.length) (Int.ofNat ys.length) = true := by simp [neI]; omega
    rw [e3, decide_eq_false (by rintro rfl; exact h rfl)]; rfl
theorem impl_sameNumbers_eq {xs ys : List Nat} (hx : ∀ x ∈ xs, canW .f32 x) (hy : ∀ x ∈ ys, canW .f32 x) (hl : xs.length < 281474976710656) : z5y xs.length xs ys.length ys = some (decide (xs = ys)) := by
  obtain ⟨p1, q1⟩ := z8z (slices_EqualFunc_eq hx hy hl)
  unfold z5y z5m
  simp only [pF_all, p1, q1, grd_true]
theorem math_Floor_eq {x : Nat} (h : nanB .f64 x = false) : zb5 x = some (fint .down x) := by
  unfold zb5 zbc
  simp only [nanQ, h, bnot, Bool.not_false, grd_true]
theorem take_succ_getD {ys : List Nat} {i : Nat} (h : i < ys.length) : ys.take i ++ [ys.getD i 0] = ys.take (i + 1) := by
  rw [List.take_succ_eq_append_getElem h]; simp [List.getD_eq_getElem?_getD, h]
theorem okA2_1 {n : Nat} {b : List Nat} (x : Nat) (hb : b.length = n) (hn : n < 1099511627776) : okA2 n 1 4 (nF (pF [x] 0 (muN 1 1))) (nF b) 1 = true :=
  decide_eq_true ⟨by omega, by omega, by simp [nF, pF, muN], by simp [nF, hb]⟩
theorem runs {ρ : Type} {L : Nat → Int → Option ρ} {len : Nat} {e : ρ} (hs : ∀ n i, i < len → L (n + 1) (Int.ofNat i) = L n (Int.ofNat (i + 1))) (he : ∀ n, L (n + 1) (Int.ofNat len) = some e) (hl : len < 281474976710656) : L big 0 = some e := by
  have := folds (L := fun n i (_ : Unit) => L n i) (len := len) (fun _ _ => ()) (e := fun _ => e) (fun n i _ hi => hs n i hi) (fun n _ => he n) len 0 big () (by omega) (big_gt hl)
  exact this
theorem impl_areFinite_1_eq (x : Nat) : z5t x = some (!finB x) := by
  obtain ⟨h1, h2⟩ := z5f (impl_IsFinite_eq x)
  unfold z5t z5l
  rw [h1, h2]; rfl
theorem slices_IndexFunc_areFinite {xs : List Nat} (hl : xs.length < 281474976710656) : ∃ r : Int, z1o xs.length xs = some r ∧ leI 0 r = !xs.all finB := by
  unfold z1o z1n
  rcases scan_all (L := z0c xs.length (Int.ofNat xs.length) xs) xs finB (g := fun i => Int.ofNat i) (e := (Int.ofNat xs.length, false))
    (fun n i hi => by
      rw [z4r]; unfold z0o; rw [ltN_t hi, okIx_t hi, ix1, addI1 (by omega)]
      simp only [gF]
      generalize xs.getD i 0 = x
      obtain ⟨h1, h2⟩ := zks (impl_areFinite_1_eq x)
      simp only [br_if, grd_true, h1, h2]
      rcases Bool.eq_false_or_eq_true (finB x) with h | h <;> simp [h])
    (fun n => by rw [z4r]; unfold z0o; rw [ltN_f (Nat.le_refl _)]; rfl) hl with ⟨h1, h2⟩ | ⟨j, h2, h3, h4⟩
  · obtain ⟨g1, g2, _⟩ := zan rfl h2
    exact ⟨Int.negSucc 0, by rw [g1, g2]; rfl, by rw [h1]; rfl⟩
  · obtain ⟨g1, g2, g3⟩ := zam rfl h4
    exact ⟨Int.ofNat j, by rw [g1, g2, g3]; rfl, by rw [h3]; exact decide_eq_true (by simp)⟩
theorem slices_ContainsFunc_areFinite {xs : List Nat} (hl : xs.length < 281474976710656) : z1f xs.length xs = some (!xs.all finB) := by
  obtain ⟨r, h1, h2⟩ := slices_IndexFunc_areFinite hl
  obtain ⟨g1, g2⟩ := zbw h1
  unfold z1f z1e
  rw [pF_all, g1, g2, h2]; rfl
theorem impl_areFinite_eq {xs : List Nat} (hl : xs.length < 281474976710656) : z6z xs.length xs = some (xs.all finB) := by
  obtain ⟨g1, g2⟩ := zar (slices_ContainsFunc_areFinite hl)
  unfold z6z z6u
  rw [pF_all, g1, g2]
  simp [grd_true, bnot]
theorem finB_eq (x : Nat) : finB x = finW .f32 x := by
  cases hn : nanB .f32 x with
  | true =>
    have h1 : finB x = false := by
      cases h : finB x with
      | false => rfl
      | true => rw [fin_num h] at hn; cases hn
    have h2 : finW .f32 x = false := by
      cases h : finW .f32 x with
      | false => rfl
      | true => rw [finW_nan h] at hn; cases hn
    rw [h1, h2]
  | false =>
    cases hf : finW .f32 x with
    | true =>
      unfold finB
      rw [sub_word hf hf]
      have h0 : (vl .f32 x - vl .f32 x).natAbs = 0 := by simp
      rw [h0, rnd_zero]
      generalize sgn0 _ _ _ = s
      cases s <;> decide +kernel
    | false =>
      have hr := inf_read hn hf
      unfold finB
      have e : fop .sub .f32 x x = qn .f32 := by
        unfold fop floatBits Ieee.Format.sub
        simp only [hr]
        cases nn .f32 x <;> simp [Ieee.Datum.opposite, Ieee.Datum.sum]
      rw [e]
      decide +kernel
theorem not_finW_nan {k : FloatKind} {x : Nat} (h : nanB k x = true) : finW k x = false := by
  cases hf : finW k x with
  | false => rfl
  | true => rw [finW_nan hf] at h; cases h
theorem qn_fin (k : FloatKind) : finW k (qn k) = false := not_finW_nan (nanB_qn k)
theorem eqN0 (i : Nat) : eqI (Int.ofNat i) 0 = decide (i = 0) := by
  unfold eqI
  by_cases h : i = 0
  · subst h; rfl
  · rw [decide_eq_false h]; exact decide_eq_false (by simp; omega)
theorem put1 {xs zs : List Nat} (hz : zs.length = xs.length) {j : Nat} (h : j < xs.length) : (xs.take j ++ zs.drop j).set j (xs.getD j 0) = xs.take (j + 1) ++ zs.drop (j + 1) := by
  have h1 : (xs.take j).length = j := by simp; omega
  have h2 : zs.drop j = zs[j] :: zs.drop (j + 1) := List.drop_eq_getElem_cons (by omega)
  rw [← take_succ_getD h, h2, List.set_append_right j _ (by omega), h1, Nat.sub_self, List.set_cons_zero, List.append_assoc]
  rfl
def knotB (as : List Nat) (j : Nat) : Bool := fromToB (as.getD j 0) 3204448256 1056964608 && (decide (j = 0) || !fcmp .leq .f32 (as.getD j 0) (as.getD (j - 1) 0))
def profB (as ls ds : List Nat) (j : Nat) : Bool := knotB as j && (finB (ls.getD j 0) && leastB (ds.getD j 0))
def validProfB (as ls ds : List Nat) : Bool := decide (2 ≤ as.length) && (decide (as.length ≤ 24) && (decide (ls.length = as.length) && (decide (ds.length = as.length) && (List.range as.length).all (profB as ls ds))))
theorem range_all {n : Nat} {p : Nat → Bool} : (List.range n).all p = true ↔ ∀ j, j < n → p j = true := by simp [List.all_eq_true]
theorem geq_leq {x y : Nat} : fcmp .geq .f32 x y = fcmp .leq .f32 y x := by
  cases hx : nanB .f32 x with
  | true => rw [(fcmp_nan .f32 (.inl hx)).2.2.2.2.2, (fcmp_nan .f32 (.inr hx)).2.2.2.1]
  | false =>
    cases hy : nanB .f32 y with
    | true => rw [(fcmp_nan .f32 (.inr hy)).2.2.2.2.2, (fcmp_nan .f32 (.inl hy)).2.2.2.1]
    | false => rw [(fcmp_num .f32 hx hy).2.2.2.2.2, (fcmp_num .f32 hy hx).2.2.2.1]
theorem ltN0 (i : Nat) : ltI 0 (Int.ofNat i) = !decide (i = 0) := by
  rw [show ltI 0 (Int.ofNat i) = decide (0 < i) from ltN 0 i]
  by_cases h : i = 0
  · rw [decide_eq_true h, decide_eq_false (by omega)]; rfl
  · rw [decide_eq_false h, decide_eq_true (by omega)]; rfl
theorem subN1 {i : Nat} (h : i ≠ 0) (h2 : i < 4611686018427387904) : subI .i64 (Int.ofNat i) 1 = Int.ofNat (i - 1) := by
  have : subI .i64 (Int.ofNat i) 1 = (i : Int) - 1 := wrap64 (by simp; omega) (by simp; omega)
  rw [this]; simp; omega
theorem impl_ValidProfile_loop {as : List Nat} (hl : as.length ≤ 24) :
    z3j as.length (Int.ofNat as.length) as as.length 0 = true ∧ z35 as.length (Int.ofNat as.length) as as.length 0 = !(List.range as.length).all (knotB as) := by
  rcases scan (L := z19 as.length (Int.ofNat as.length) as as.length) (len := as.length) (knotB as) (g := fun _ => ()) (e := (Int.ofNat as.length, false))
    (fun n i hi => by
      rw [zbs]; unfold z2h
      obtain ⟨p1, q1⟩ := zhq (impl_isFromTo_eq (as.getD i 0) 3204448256 1056964608)
      rw [ltN_t hi, okIx_t hi, ix1, addI1 (by omega), ltN0]
      simp only [gF, p1, q1, grd_true, br_true]
      unfold knotB
      by_cases h0 : i = 0
      · subst h0
        cases fromToB (as.getD 0 0) 3204448256 1056964608 <;> rfl
      · rw [subN1 h0 (by omega), okIx_t (show i - 1 < as.length by omega), ix1, geq_leq, decide_eq_false h0]
        cases fromToB (as.getD i 0) 3204448256 1056964608
        · rfl
        · cases fcmp .leq .f32 (as.getD i 0) (as.getD (i - 1) 0) <;> rfl)
    (fun n => by rw [zbs]; unfold z2h; rw [ltN_f (Nat.le_refl _)]; rfl) as.length 0 big (by omega) (big_gt (by omega)) with ⟨h1, h2⟩ | ⟨j, _, h2, h3, h4⟩
  · obtain ⟨g1, g2, _⟩ := zhg rfl h2
    rw [range_all.2 fun j hj => h1 j (Nat.zero_le _) hj]
    exact ⟨g1, g2⟩
  · obtain ⟨g1, g2⟩ := zhr rfl h4
    have : (List.range as.length).all (knotB as) = false := by
      cases hh : (List.range as.length).all (knotB as) with
      | false => rfl
      | true => rw [range_all.1 hh j h2] at h3; cases h3
    rw [this]
    exact ⟨g1, g2⟩
theorem all_getD {xs : List Nat} {p : Nat → Bool} : xs.all p = true ↔ ∀ j, j < xs.length → p (xs.getD j 0) = true := by
  rw [List.all_eq_true]
  constructor
  · intro h j hj; exact h _ (get_mem hj)
  · intro h x hx
    obtain ⟨i, hi, rfl⟩ := List.getElem_of_mem hx
    have := h i hi
    simpa [List.getD_eq_getElem?_getD, hi] using this
theorem ltN2 (n : Nat) : ltI (Int.ofNat n) 2 = !decide (2 ≤ n) := by
  rw [show ltI (Int.ofNat n) 2 = decide (n < 2) from ltN n 2]
  by_cases h : 2 ≤ n
  · rw [decide_eq_true h, decide_eq_false (by omega)]; rfl
  · rw [decide_eq_false h, decide_eq_true (by omega)]; rfl
theorem gtN (c n : Nat) : ltI (Int.ofNat c) (Int.ofNat n) = !decide (n ≤ c) := by
  rw [ltN]
  by_cases h : n ≤ c
  · rw [decide_eq_true h, decide_eq_false (by omega)]; rfl
  · rw [decide_eq_false h, decide_eq_true (by omega)]; rfl
theorem neN (m n : Nat) : neI (Int.ofNat m) (Int.ofNat n) = !decide (m = n) := by
  unfold neI
  by_cases h : m = n
  · subst h; simp
  · rw [decide_eq_false h]; simp; omega
theorem impl_ValidProfile_eq {as ls ds : List Nat} (hl : ls.length < 281474976710656) (hd : ds.length < 281474976710656) : z50 as.length as ls.length ls ds.length ds = some (validProfB as ls ds) := by
  obtain ⟨p1, q1⟩ := zm0 (impl_areFinite_eq hl)
  obtain ⟨p2, q2⟩ := zmq (impl_areLeast_eq hd)
  unfold z50 z4z validProfB
  rw [ltN2, show ltI 24 (Int.ofNat as.length) = !decide (as.length ≤ 24) from gtN 24 _, neN, neN]
  simp only [pF_all, p1, q1, p2, q2, grd_true]
  by_cases c1 : 2 ≤ as.length
  · by_cases c2 : as.length ≤ 24
    · by_cases c3 : ls.length = as.length
      · by_cases c4 : ds.length = as.length
        · obtain ⟨g1, g2⟩ := impl_ValidProfile_loop c2
          rw [decide_eq_true c1, decide_eq_true c2, decide_eq_true c3, decide_eq_true c4, g1, g2]
          have key : (List.range as.length).all (profB as ls ds) = (ls.all finB && (ds.all leastB && (List.range as.length).all (knotB as))) := by
            rw [Bool.eq_iff_iff, Bool.and_eq_true, Bool.and_eq_true, range_all, range_all, all_getD, all_getD, c3, c4]
            constructor
            · intro h
              refine ⟨fun j hj => ?_, fun j hj => ?_, fun j hj => ?_⟩
              all_goals have := h j hj; unfold profB at this; simp only [Bool.and_eq_true] at this
              · exact this.2.1
              · exact this.2.2
              · exact this.1
            · rintro ⟨h1, h2, h3⟩ j hj
              unfold profB
              rw [h1 j hj, h2 j hj, h3 j hj]; rfl
          rw [key]
          cases ls.all finB <;> cases ds.all leastB <;> cases (List.range as.length).all (knotB as) <;> rfl
        · rw [decide_eq_false c4]
          rw [decide_eq_true c1, decide_eq_true c2, decide_eq_true c3]; rfl
      · rw [decide_eq_false c3]
        rw [decide_eq_true c1, decide_eq_true c2]; rfl
    · rw [decide_eq_false c2]
      rw [decide_eq_true c1]; rfl
  · rw [decide_eq_false c1]; rfl
def sameProfB (as ls ds as' ls' ds' : List Nat) : Bool := decide (as = as') && (decide (ls = ls') && decide (ds = ds'))
theorem impl_SameProfile_eq {as ls ds as' ls' ds' : List Nat} (ka : ∀ x ∈ as, canW .f32 x) (kl : ∀ x ∈ ls, canW .f32 x) (kd : ∀ x ∈ ds, canW .f32 x) (ka' : ∀ x ∈ as', canW .f32 x) (kl' : ∀ x ∈ ls', canW .f32 x) (kd' : ∀ x ∈ ds', canW .f32 x)
    (la : as.length < 281474976710656) (ll : ls.length < 281474976710656) (ld : ds.length < 281474976710656) :
    z5n as.length as ls.length ls ds.length ds as'.length as' ls'.length ls' ds'.length ds' = some (sameProfB as ls ds as' ls' ds') := by
  obtain ⟨p1, q1⟩ := zcy (impl_sameNumbers_eq ka ka' la)
  obtain ⟨p2, q2⟩ := zcy (impl_sameNumbers_eq kl kl' ll)
  obtain ⟨p3, q3⟩ := zcy (impl_sameNumbers_eq kd kd' ld)
  unfold z5n z5h sameProfB
  simp only [pF_all, p1, q1, p2, q2, p3, q3, grd_true]
  cases decide (as = as') <;> cases decide (ls = ls') <;> rfl
theorem unk_same {R : Type} {c : Bool} {x y : Option R} (h : c = true → x = y) : unk c x y = y := by
  unfold unk
  cases c
  · rfl
  · rw [h rfl]; simp
theorem slices_Clone_eq {xs : List Nat} (hl : xs.length ≤ 1099511627776) : z34 xs.length xs = some (xs.length, xs) := by
  have ho : okA2 0 xs.length 4 (nF xs) (nF []) 1 = true := decide_eq_true ⟨by omega, by omega, by simp [nF], by simp [nF]⟩
  unfold z34 z49
  rw [pF_all, ho, unk_same]
  · show some (0 + xs.length, xs) = _
    rw [Nat.zero_add]
  · intro h
    have h0 : xs.length = 0 := of_decide_eq_true h
    obtain rfl := List.eq_nil_of_length_eq_zero h0
    rfl
theorem impl_copyProfile_eq {as ls ds : List Nat} (ha : as.length ≤ 1099511627776) (hl : ls.length ≤ 1099511627776) (hd : ds.length ≤ 1099511627776) :
    z2k as.length as ls.length ls ds.length ds = some (as.length, ls.length, ds.length, as, ls, ds) := by
  obtain ⟨p1, q1, r1⟩ := z98 (slices_Clone_eq ha)
  obtain ⟨p2, q2, r2⟩ := z98 (slices_Clone_eq hl)
  obtain ⟨p3, q3, r3⟩ := z98 (slices_Clone_eq hd)
  unfold z2k z5v
  simp only [pF_all, p1, q1, r1, p2, q2, r2, p3, q3, r3, grd_true]
def eqAll (xs ys : List Nat) : Bool := decide (xs.length = ys.length) && (List.range xs.length).all fun i => !fcmp .neq .f32 (xs.getD i 0) (ys.getD i 0)
theorem slices_Equal_eq {xs ys : List Nat} (hl : xs.length < 281474976710656) : z4a xs.length xs ys.length ys = some (eqAll xs ys) := by
  unfold z4a z47 eqAll
  rw [neN]
  by_cases h : xs.length = ys.length
  · rw [decide_eq_true h]
    rcases scan (L := z0v xs.length ys.length (Int.ofNat xs.length) xs ys) (len := xs.length) (fun i => !fcmp .neq .f32 (xs.getD i 0) (ys.getD i 0)) (g := fun _ => ()) (e := (Int.ofNat xs.length, false))
      (fun n i hi => by
        rw [z9h]; unfold z1v; rw [ltN_t hi, okIx_t hi, ix1, addI1 (by omega), okIx_t (show i < ys.length by omega)]
        simp only [br_true, grd_true, gF]
        cases fcmp .neq .f32 (xs.getD i 0) (ys.getD i 0) <;> rfl)
      (fun n => by rw [z9h]; unfold z1v; rw [ltN_f (Nat.le_refl _)]; rfl) xs.length 0 big (by omega) (big_gt hl) with ⟨k1, k2⟩ | ⟨j, k1, k2, k3, k4⟩
    · obtain ⟨g1, g2, _⟩ := zfq rfl k2
      rw [range_all.2 fun j hj => k1 j (Nat.zero_le _) hj]
      show br _ _ (grd (z2a xs.length ys.length (Int.ofNat xs.length) xs ys (Int.ofNat 0)) (br (z25 xs.length ys.length (Int.ofNat xs.length) xs ys (Int.ofNat 0)) _ _)) = _
      rw [g1, g2]; rfl
    · obtain ⟨g1, g2⟩ := zfs rfl k4
      have : ((List.range xs.length).all fun i => !fcmp .neq .f32 (xs.getD i 0) (ys.getD i 0)) = false := by
        cases hh : (List.range xs.length).all fun i => !fcmp .neq .f32 (xs.getD i 0) (ys.getD i 0) with
        | false => rfl
        | true => have := range_all.1 hh j k2; rw [k3] at this; cases this
      rw [this]
      show br _ _ (grd (z2a xs.length ys.length (Int.ofNat xs.length) xs ys (Int.ofNat 0)) (br (z25 xs.length ys.length (Int.ofNat xs.length) xs ys (Int.ofNat 0)) _ _)) = _
      rw [g1, g2]; rfl
  · rw [decide_eq_false h]; rfl
def mixed (a b s : Nat) : Nat := fop .add .f32 a (fop .mul .f32 s (fop .sub .f32 b a))
def mixL (xs ys : List Nat) (s : Nat) : List Nat := (List.range xs.length).map fun i => mixed (xs.getD i 0) (ys.getD i 0) s
theorem mixL_length (xs ys : List Nat) (s : Nat) : (mixL xs ys s).length = xs.length := by simp [mixL]
theorem mixL_get {xs ys : List Nat} {s i : Nat} (h : i < xs.length) : (mixL xs ys s).getD i 0 = mixed (xs.getD i 0) (ys.getD i 0) s := by simp [mixL, List.getD_eq_getElem?_getD, h]
theorem impl_Mix_loop {ls ds ls' ds' : List Nat} {s n : Nat} (h1 : ls.length = n) (h2 : ds.length = n) (h3 : ls'.length = n) (h4 : ds'.length = n) (hn : n ≤ 24) :
    z0u s (Int.ofNat n) ls ds ls' ds' ls.length ds.length ls'.length ds'.length ls.length ds.length big 0 ls ds = some (Int.ofNat n, false, mixL ls ls' s, mixL ds ds' s) := by
  have := runs (L := fun m i => z0u s (Int.ofNat n) ls ds ls' ds' ls.length ds.length ls'.length ds'.length ls.length ds.length m i ((mixL ls ls' s).take i.toNat ++ ls.drop i.toNat) ((mixL ds ds' s).take i.toNat ++ ds.drop i.toNat)) (len := n) (e := (Int.ofNat n, false, mixL ls ls' s, mixL ds ds' s))
    (fun m i hi => by
      show z0u _ _ _ _ _ _ _ _ _ _ _ _ _ _ ((mixL ls ls' s).take i ++ ls.drop i) ((mixL ds ds' s).take i ++ ds.drop i) = z0u _ _ _ _ _ _ _ _ _ _ _ _ _ _ ((mixL ls ls' s).take (i + 1) ++ ls.drop (i + 1)) ((mixL ds ds' s).take (i + 1) ++ ds.drop (i + 1))
      obtain ⟨p1, q1⟩ := zgo (show z96 (ls.getD i 0) (ls'.getD i 0) s = some (mixed (ls.getD i 0) (ls'.getD i 0) s) from rfl)
      obtain ⟨p2, q2⟩ := zgo (show z96 (ds.getD i 0) (ds'.getD i 0) s = some (mixed (ds.getD i 0) (ds'.getD i 0) s) from rfl)
      rw [zcn]; unfold z2s
      rw [ltN_t hi, okIx_t (show i < ls.length by omega), okIx_t (show i < ds.length by omega), okIx_t (show i < ls'.length by omega), okIx_t (show i < ds'.length by omega), ix1, addI1 (by omega)]
      simp only [br_true, grd_true, gF, p1, q1, p2, q2]
      rw [← put1 (xs := mixL ls ls' s) (zs := ls) (by rw [mixL_length]) (by rw [mixL_length]; omega), ← put1 (xs := mixL ds ds' s) (zs := ds) (by rw [mixL_length]) (by rw [mixL_length]; omega), mixL_get (xs := ls) (by omega), mixL_get (xs := ds) (by omega)])
    (fun m => by
      show z0u _ _ _ _ _ _ _ _ _ _ _ _ _ _ ((mixL ls ls' s).take n ++ ls.drop n) ((mixL ds ds' s).take n ++ ds.drop n) = _
      rw [zcn]; unfold z2s
      rw [ltN_f (Nat.le_refl _), br_false, List.take_of_length_le (by rw [mixL_length]; omega), List.take_of_length_le (by rw [mixL_length]; omega), List.drop_of_length_le (by omega), List.drop_of_length_le (by omega), List.append_nil, List.append_nil]) (by omega)
  simpa using this
theorem validProfB_len {as ls ds : List Nat} (h : validProfB as ls ds = true) : 2 ≤ as.length ∧ as.length ≤ 24 ∧ ls.length = as.length ∧ ds.length = as.length := by
  unfold validProfB at h
  simp only [Bool.and_eq_true, decide_eq_true_eq] at h
  exact ⟨h.1, h.2.1, h.2.2.1, h.2.2.2.1⟩
def mixR (as ls ds as' ls' ds' : List Nat) (s : Nat) : Nat × Nat × Nat × Bool × List Nat × List Nat × List Nat :=
  if validProfB as ls ds = true then (if validProfB as' ls' ds' = true then (if finB s = true then (if eqAll as as' = true then (if validProfB as (mixL ls ls' s) (mixL ds ds' s) = true then (as.length, ls.length, ds.length, true, as, mixL ls ls' s, mixL ds ds' s)
  else (0, 0, 0, false, [], [], [])) else (0, 0, 0, false, [], [], [])) else (0, 0, 0, false, [], [], [])) else (0, 0, 0, false, [], [], [])) else (0, 0, 0, false, [], [], [])
theorem impl_MixProfiles_eq {as ls ds as' ls' ds' : List Nat} (s : Nat) (ha : as.length < 281474976710656) (hl : ls.length < 281474976710656) (hd : ds.length < 281474976710656) (hl' : ls'.length < 281474976710656) (hd' : ds'.length < 281474976710656) :
    z1x as.length as ls.length ls ds.length ds as'.length as' ls'.length ls' ds'.length ds' s = some (mixR as ls ds as' ls' ds' s) := by
  obtain ⟨p1, q1⟩ := z26 (impl_ValidProfile_eq (as := as) hl hd)
  obtain ⟨p2, q2⟩ := z26 (impl_ValidProfile_eq (as := as') hl' hd')
  obtain ⟨p3, q3⟩ := z5f (impl_IsFinite_eq s)
  obtain ⟨p4, q4⟩ := zhi (slices_Equal_eq (ys := as') ha)
  unfold z1x z5x mixR
  simp only [pF_all, p1, q1, p2, q2, p3, q3, p4, q4, grd_true]
  cases h1 : validProfB as ls ds
  · rfl
  · cases h2 : validProfB as' ls' ds'
    · rfl
    · cases finB s
      · rfl
      · cases h3 : eqAll as as'
        · rfl
        · obtain ⟨c1, c2, c3, c4⟩ := validProfB_len h1
          obtain ⟨d1, d2, d3, d4⟩ := validProfB_len h2
          have hlen : as.length = as'.length := by
            unfold eqAll at h3
            simp only [Bool.and_eq_true, decide_eq_true_eq] at h3
            exact h3.1
          obtain ⟨e0, e1, e2, e3, e4, e5, e6⟩ := zfm (impl_copyProfile_eq (as := as) (ls := ls) (ds := ds) (by omega) (by omega) (by omega))
          obtain ⟨g1, _, _, g2, g3⟩ := zi3 rfl (impl_Mix_loop (ls := ls) (ds := ds) (ls' := ls') (ds' := ds') (s := s) (n := as.length) (by omega) (by omega) (by omega) (by omega) c2)
          have m1 := mixL_length ls ls' s
          have m2 := mixL_length ds ds' s
          obtain ⟨p5, q5⟩ := z26 (impl_ValidProfile_eq (as := as) (ls := mixL ls ls' s) (ds := mixL ds ds' s) (by omega) (by omega))
          rw [m1, m2] at p5 q5
          have pm1 : pF (mixL ls ls' s) 0 (muN ls.length 1) = mixL ls ls' s := by rw [← m1]; exact pF_all _
          have pm2 : pF (mixL ds ds' s) 0 (muN ds.length 1) = mixL ds ds' s := by rw [← m2]; exact pF_all _
          simp only [e0, e1, e2, e3, e4, e5, e6, g1, g2, g3, pF_all, pm1, pm2, p5, q5, grd_true, bnot_true, br_false, if_true]
          cases validProfB as (mixL ls ls' s) (mixL ds ds' s) <;> rfl
theorem subself_neq (k : FloatKind) (x : Nat) : fcmp .neq k (fop .sub k x x) 0 = !finW k x := by
  cases hn : nanB k x with
  | true =>
    rw [fop_nan (.inl hn), (fcmp_nan k (.inl (nanB_qn k))).2.1, not_finW_nan hn]; rfl
  | false =>
    cases hf : finW k x with
    | true =>
      rw [sub_word hf hf]
      have h0 : (vl k x - vl k x).natAbs = 0 := by simp
      rw [h0, rnd_zero]
      generalize sgn0 _ _ _ = s
      cases k <;> cases s <;> decide +kernel
    | false =>
      have hr := inf_read hn hf
      have e : fop .sub k x x = qn k := by
        unfold fop floatBits Ieee.Format.sub
        simp only [hr]
        cases nn k x <;> simp [Ieee.Datum.opposite, Ieee.Datum.sum]
      rw [e, (fcmp_nan k (.inl (nanB_qn k))).2.1]; rfl
def rnd1 (u D p : Nat) : Nat := fop .sub .f64 4607182418800017408 (fop .quo .f64 (fop .mul .f64 u p) D)
def poly (u : Nat) : Nat := rnd1 u 4618441417868443648 (rnd1 u 4626322717216342016 (rnd1 u 4631107791820423168 (rnd1 u 4634766966517661696 (rnd1 u 4637440978796412928 (rnd1 u 4639692778610098176 (rnd1 u 4641592734702895104 (rnd1 u 4643492690795692032 4607182418800017408)))))))
theorem spec_sine_loop (u : Nat) : z1l u 4607182418800017408 8 = true ∧ z0g u 4607182418800017408 8 = poly u := by
  obtain ⟨n, hn⟩ : ∃ n, big = n + 9 := ⟨big - 9, by have := big_gt (k := 9) (by decide); omega⟩
  have step : ∀ m p (k k' : Int) D, leI 1 k = true → subI .i64 k 1 = k' → fOI .f64 (mulI .i64 (mulI .i64 2 k) (addI .i64 (mulI .i64 2 k) 1)) = D →
      z12 u (m + 1) p k = z12 u m (rnd1 u D p) k' := by
    intro m p k k' D h1 h2 h3
    rw [zbu]; unfold z2g
    rw [h1, h2, h3]; rfl
  have hf : z12 u big 4607182418800017408 8 = some (poly u, 0, false) := by
    rw [hn, step (n + 8) _ 8 7 4643492690795692032 (by decide +kernel) (by decide +kernel) (by decide +kernel),
      step (n + 7) _ 7 6 4641592734702895104 (by decide +kernel) (by decide +kernel) (by decide +kernel),
      step (n + 6) _ 6 5 4639692778610098176 (by decide +kernel) (by decide +kernel) (by decide +kernel),
      step (n + 5) _ 5 4 4637440978796412928 (by decide +kernel) (by decide +kernel) (by decide +kernel),
      step (n + 4) _ 4 3 4634766966517661696 (by decide +kernel) (by decide +kernel) (by decide +kernel),
      step (n + 3) _ 3 2 4631107791820423168 (by decide +kernel) (by decide +kernel) (by decide +kernel),
      step (n + 2) _ 2 1 4626322717216342016 (by decide +kernel) (by decide +kernel) (by decide +kernel),
      step (n + 1) _ 1 0 4618441417868443648 (by decide +kernel) (by decide +kernel) (by decide +kernel)]
    rw [zbu]; unfold z2g
    rw [show leI 1 0 = false from by decide +kernel]; rfl
  obtain ⟨g1, g2, _⟩ := zhv rfl hf
  exact ⟨g1, g2⟩
def halfS (r : Nat) : Nat :=
  if fcmp .gtr .f64 r 4598175219545276416 = true then fop .mul .f64 (fop .mul .f64 (fop .sub .f64 4602678819172646912 r) 4618760256179416344) (poly (fop .mul .f64 (fop .mul .f64 (fop .sub .f64 4602678819172646912 r) 4618760256179416344) (fop .mul .f64 (fop .sub .f64 4602678819172646912 r) 4618760256179416344)))
  else fop .mul .f64 (fop .mul .f64 r 4618760256179416344) (poly (fop .mul .f64 (fop .mul .f64 r 4618760256179416344) (fop .mul .f64 r 4618760256179416344)))
def sineA (q : Nat) : Nat := if fcmp .geq .f64 q 4602678819172646912 = true then fneg .f64 (halfS (fop .sub .f64 q 4602678819172646912)) else halfS q
noncomputable def zz (x : Nat) : Nat := fop .sub .f64 x (fOI .f64 (f2iV .f64 x .i64))
noncomputable def qq (x : Nat) : Nat := if fcmp .lss .f64 (zz x) 0 = true then fop .add .f64 (zz x) 4607182418800017408 else zz x
noncomputable def sineV (x : Nat) : Nat := sineA (qq x)
def smallB (x : Nat) : Bool := decide (rg FloatKind.f64.format x < 4841369599423283200)
theorem small_fin {x : Nat} (h : smallB x = true) : finW .f64 x = true := finW_of (Nat.le_of_lt (of_decide_eq_true h)) (by decide +kernel)
theorem small_whole {x : Nat} (h : smallB x = true) : mg .f64 x / 2 ^ 1074 ≤ 4503599627370496 := by
  have h1 : mg .f64 x ≤ rungV FloatKind.f64.format 4841369599423283200 := mg_le (Nat.le_of_lt (of_decide_eq_true h))
  have h2 : rungV FloatKind.f64.format 4841369599423283200 ≤ 4503599627370496 * 2 ^ 1074 := by decide +kernel
  exact div_bound _ _ 1074 (Nat.le_trans h1 h2)
theorem small_int {x : Nat} (h : smallB x = true) : f2iB .f64 x .i64 = true ∧ f2iV .f64 x .i64 = sg (nn .f64 x) (mg .f64 x / 2 ^ 1074) := by
  have hw := small_whole h
  have hi := integral_zero (small_fin h) (N := 1074) (by decide +kernel)
  generalize mg .f64 x / 2 ^ 1074 = w at hw hi ⊢
  have hi : (FloatKind.f64.decode x).integral .zero = .number (nn .f64 x) w 0 := hi
  have e : floatToIntVal .f64 x .i64 = some (sg (nn .f64 x) w) := by
    unfold floatToIntVal Ieee.Datum.toInt
    rw [hi]
    simp only [signed_sg, Nat.pow_zero, Nat.mul_one]
    have hmin : IntKind.i64.min = -9223372036854775808 := by decide
    have hmax : IntKind.i64.max = 9223372036854775807 := by decide
    rw [hmin, hmax, if_pos]
    unfold sg
    by_cases hs : nn .f64 x = true
    · rw [if_pos hs]; omega
    · rw [if_neg hs]; omega
  unfold f2iB f2iV
  rw [e, finW_nan (small_fin h)]
  exact ⟨rfl, rfl⟩
theorem zz_rg {x : Nat} (h : smallB x = true) : rg FloatKind.f64.format (zz x) ≤ 4607182418800017408 := by
  have hw := small_whole h
  obtain ⟨_, h2⟩ := small_int h
  unfold zz
  rw [h2]
  have hmd := Nat.div_add_mod (mg .f64 x) (2 ^ 1074)
  have hlt := Nat.mod_lt (mg .f64 x) (Nat.two_pow_pos 1074)
  generalize hW : mg .f64 x / 2 ^ 1074 = w at hw hmd ⊢
  obtain ⟨r, r1, r2, r3⟩ := fOI_exact (n := sg (nn .f64 x) w) (by rw [sg_abs]; omega)
  rw [sg_abs] at r3
  show rg FloatKind.f64.format (fop .sub .f64 x (floatOfInt .f64 (sg (nn .f64 x) w))) ≤ _
  rw [r2]
  have hf2 : finW .f64 (FloatKind.f64.format.word (decide (sg (nn .f64 x) w < 0)) r) = true := finW_of (by rw [rg_word _ _ (Nat.le_of_lt r1)]; exact Nat.le_refl _) r1
  rw [sub_word (small_fin h) hf2, rg_word _ _ (rnd_inf _ _ _)]
  refine rnd_le FloatKind.f64.format (u := 0) (v := 0) (by unfold lp; omega) ?_
  rw [Nat.pow_zero, Nat.mul_one, Nat.mul_one]
  have h1 : rungV FloatKind.f64.format 4607182418800017408 = 2 ^ 1074 := by decide +kernel
  rw [h1]
  have hv : vl .f64 (FloatKind.f64.format.word (decide (sg (nn .f64 x) w < 0)) r) = sg (nn .f64 x) (w * 2 ^ 1074) := by
    unfold vl
    rw [mg_word _ _ (Nat.le_of_lt r1), nn_word _ _ (Nat.le_of_lt r1), r3]
    generalize (2 : Nat) ^ 1074 = T
    unfold sg
    by_cases hs : nn .f64 x = true
    · rw [if_pos hs, if_pos hs]
      by_cases h0 : w = 0
      · subst h0; simp
      · rw [if_pos (decide_eq_true (by omega))]
    · rw [if_neg hs, if_neg hs, if_neg (by simp)]
  rw [hv]
  unfold vl
  generalize 2 ^ 1074 = T at hmd hlt ⊢
  have hm : mg .f64 x = w * T + mg .f64 x % T := by rw [Nat.mul_comm]; exact hmd.symm
  unfold sg
  by_cases hs : nn .f64 x = true
  · rw [if_pos hs, if_pos hs]; omega
  · rw [if_neg hs, if_neg hs]; omega
theorem up_fin (x : Nat) : finW .f64 (fcvV .f32 .f64 x) = finW .f32 x := by
  cases hn : nanB .f32 x with
  | true =>
    have e : fcvV .f32 .f64 x = qn .f64 := by unfold fcvV fcv; rw [hn]; rfl
    rw [e, qn_fin, not_finW_nan hn]
  | false =>
    cases hf : finW .f32 x with
    | true =>
      have h1 : rg FloatKind.f32.format x ≤ 2139095039 := by
        have := finW_lt hf
        have hi : FloatKind.f32.format.infRung = 2139095040 := by decide
        omega
      exact finW_of (up_rg (c := 5183643170566569984) (N := 925) h1 (by decide +kernel) (by decide +kernel) (by decide +kernel)) (by decide +kernel)
    | false =>
      have hr := inf_read hn hf
      have e : fcvV .f32 .f64 x = FloatKind.f64.format.word (nn .f32 x) FloatKind.f64.format.infRung := by
        obtain ⟨r, hr2⟩ := fcv_up x
        have hv : fcvV .f32 .f64 x = r := by unfold fcvV; rw [hr2]; rfl
        rw [hv]
        unfold fcv at hr2
        rw [hn] at hr2
        simp only [Bool.false_eq_true, if_false] at hr2
        unfold floatToFloatBits at hr2
        rw [if_neg (by intro h; cases h)] at hr2
        have hd : FloatKind.f32.decode x = .infinity (nn .f32 x) := hr
        rw [hd] at hr2
        simp only at hr2
        cases hr2
        rfl
      rw [e]
      unfold finW
      rw [rg_word _ _ (Nat.le_refl _)]
      exact decide_eq_false (by omega)
theorem up_is {x : Nat} (h : finW .f32 x = true) : ∃ s r, fcvV .f32 .f64 x = FloatKind.f64.format.word s r ∧ r < FloatKind.f64.format.infRung := by
  have e := up_eq h
  have hf : finW .f64 (fcvV .f32 .f64 x) = true := by rw [up_fin, h]
  refine ⟨_, _, e, ?_⟩
  have := finW_lt hf
  rw [e] at this
  have hw : rg FloatKind.f64.format (Ieee.double.word (nn .f32 x) (rnd Ieee.double (mg .f32 x) (lp .f32))) = _ := rg_word .f64 _ (rnd_inf _ _ _)
  rw [hw] at this
  exact this
theorem spec_huge {x : Nat} {s : Bool} {r : Nat} (e : x = FloatKind.f64.format.word s r) (h : r < FloatKind.f64.format.infRung) : (fcmp .geq .f64 x 4841369599423283200 || fcmp .leq .f64 x 14064741636278059008) = !smallB x := by
  have hn : nanB .f64 x = false := by rw [e]; exact nanB_word .f64 s (Nat.le_of_lt h)
  have hs : srung FloatKind.f64.format x = sg s r := by
    have h1 : rg FloatKind.f64.format x = r := by rw [e]; exact rg_word .f64 s (Nat.le_of_lt h)
    have h2 : nn .f64 x = s := by rw [e]; exact nn_word .f64 s (Nat.le_of_lt h)
    unfold srung
    rw [h1, show ngB FloatKind.f64.format x = s from h2]
  rw [(fcmp_num .f64 hn (by decide +kernel)).2.2.2.2.2, (fcmp_num .f64 hn (by decide +kernel)).2.2.2.1, hs, show srung FloatKind.f64.format 4841369599423283200 = 4841369599423283200 from by decide +kernel, show srung FloatKind.f64.format 14064741636278059008 = -4841369599423283200 from by decide +kernel]
  unfold smallB
  rw [show rg FloatKind.f64.format x = r from by rw [e]; exact rg_word .f64 s (Nat.le_of_lt h)]
  unfold sg
  by_cases hh : r < 4841369599423283200
  · rw [decide_eq_true hh]
    cases s
    · rw [if_neg (by decide), decide_eq_false (by omega), decide_eq_false (by omega)]; rfl
    · rw [if_pos rfl, decide_eq_false (by omega), decide_eq_false (by omega)]; rfl
  · rw [decide_eq_false hh]
    cases s
    · rw [if_neg (by decide), decide_eq_true (by omega)]; rfl
    · rw [if_pos rfl, decide_eq_true (p := -(r : Int) ≤ -4841369599423283200) (by omega)]
      simp
theorem rnd1_rg {u D p a b m c d B : Nat} (hu : rg FloatKind.f64.format u ≤ a) (hp : rg FloatKind.f64.format p ≤ b) (ha : a < FloatKind.f64.format.infRung) (hb : b < FloatKind.f64.format.infRung) (hm : m < FloatKind.f64.format.infRung) (hc : c < FloatKind.f64.format.infRung)
    (h1 : rungV FloatKind.f64.format a * rungV FloatKind.f64.format b ≤ rungV FloatKind.f64.format m * 2 ^ 1074) (hD : finW .f64 D = true) (hB : B ≤ mg .f64 D) (hB0 : 0 < B) (h2 : 2 * rungV FloatKind.f64.format m * 2 ^ 1074 ≤ rungV FloatKind.f64.format c * B)
    (h3 : rungV FloatKind.f64.format 4607182418800017408 + rungV FloatKind.f64.format c ≤ rungV FloatKind.f64.format d) : rg FloatKind.f64.format (rnd1 u D p) ≤ d := by
  have g1 : rg FloatKind.f64.format (fop .mul .f64 u p) ≤ m := mul_rg (N := 1074) hu hp ha hb (by decide +kernel) h1
  have g2 : rg FloatKind.f64.format (fop .quo .f64 (fop .mul .f64 u p) D) ≤ c := quo_rg (N := 1074) (finW_of g1 hm) hD (mg_le g1) hB hB0 (by decide +kernel) h2
  exact sub_rg (show rg FloatKind.f64.format 4607182418800017408 ≤ 4607182418800017408 by decide +kernel) g2 (by decide +kernel) hc h3
theorem poly_rg {u : Nat} (hu : rg FloatKind.f64.format u ≤ 4661225614328463360) : rg FloatKind.f64.format (poly u) ≤ 5039527983027585024 := by
  have g0 := rnd1_rg (a := 4661225614328463360) (b := 4607182418800017408) (m := 4661225614328463360) (c := 4656722014701092864) (d := 4661225614328463360) (B := 6 * 2 ^ 1074) (D := 4643492690795692032) hu (show rg FloatKind.f64.format 4607182418800017408 ≤ 4607182418800017408 by decide +kernel) (by decide +kernel) (by decide +kernel) (by decide +kernel) (by decide +kernel) (by decide +kernel) (by decide +kernel) (by decide +kernel) (by decide +kernel) (by decide +kernel) (by decide +kernel)
  have g1 := rnd1_rg (a := 4661225614328463360) (b := 4661225614328463360) (m := 4715268809856909312) (c := 4710765210229538816) (d := 4715268809856909312) (B := 6 * 2 ^ 1074) (D := 4641592734702895104) hu g0 (by decide +kernel) (by decide +kernel) (by decide +kernel) (by decide +kernel) (by decide +kernel) (by decide +kernel) (by decide +kernel) (by decide +kernel) (by decide +kernel) (by decide +kernel)
  have g2 := rnd1_rg (a := 4661225614328463360) (b := 4715268809856909312) (m := 4769312005385355264) (c := 4764808405757984768) (d := 4769312005385355264) (B := 6 * 2 ^ 1074) (D := 4639692778610098176) hu g1 (by decide +kernel) (by decide +kernel) (by decide +kernel) (by decide +kernel) (by decide +kernel) (by decide +kernel) (by decide +kernel) (by decide +kernel) (by decide +kernel) (by decide +kernel)
  have g3 := rnd1_rg (a := 4661225614328463360) (b := 4769312005385355264) (m := 4823355200913801216) (c := 4818851601286430720) (d := 4823355200913801216) (B := 6 * 2 ^ 1074) (D := 4637440978796412928) hu g2 (by decide +kernel) (by decide +kernel) (by decide +kernel) (by decide +kernel) (by decide +kernel) (by decide +kernel) (by decide +kernel) (by decide +kernel) (by decide +kernel) (by decide +kernel)
  have g4 := rnd1_rg (a := 4661225614328463360) (b := 4823355200913801216) (m := 4877398396442247168) (c := 4872894796814876672) (d := 4877398396442247168) (B := 6 * 2 ^ 1074) (D := 4634766966517661696) hu g3 (by decide +kernel) (by decide +kernel) (by decide +kernel) (by decide +kernel) (by decide +kernel) (by decide +kernel) (by decide +kernel) (by decide +kernel) (by decide +kernel) (by decide +kernel)
  have g5 := rnd1_rg (a := 4661225614328463360) (b := 4877398396442247168) (m := 4931441591970693120) (c := 4926937992343322624) (d := 4931441591970693120) (B := 6 * 2 ^ 1074) (D := 4631107791820423168) hu g4 (by decide +kernel) (by decide +kernel) (by decide +kernel) (by decide +kernel) (by decide +kernel) (by decide +kernel) (by decide +kernel) (by decide +kernel) (by decide +kernel) (by decide +kernel)
  have g6 := rnd1_rg (a := 4661225614328463360) (b := 4931441591970693120) (m := 4985484787499139072) (c := 4980981187871768576) (d := 4985484787499139072) (B := 6 * 2 ^ 1074) (D := 4626322717216342016) hu g5 (by decide +kernel) (by decide +kernel) (by decide +kernel) (by decide +kernel) (by decide +kernel) (by decide +kernel) (by decide +kernel) (by decide +kernel) (by decide +kernel) (by decide +kernel)
  have g7 := rnd1_rg (a := 4661225614328463360) (b := 4985484787499139072) (m := 5039527983027585024) (c := 5035024383400214528) (d := 5039527983027585024) (B := 6 * 2 ^ 1074) (D := 4618441417868443648) hu g6 (by decide +kernel) (by decide +kernel) (by decide +kernel) (by decide +kernel) (by decide +kernel) (by decide +kernel) (by decide +kernel) (by decide +kernel) (by decide +kernel) (by decide +kernel)
  exact g7
theorem rg_neg (x : Nat) (h : nanB .f64 x = false) : rg FloatKind.f64.format (fneg .f64 x) = rg FloatKind.f64.format x := by
  have e : fneg .f64 x = x ^^^ 2 ^ 63 := by
    unfold fneg
    rw [h, if_neg (by decide)]
    rfl
  rw [e]
  show (x ^^^ 2 ^ 63) % FloatKind.f64.format.signWeight = x % FloatKind.f64.format.signWeight
  rw [show FloatKind.f64.format.signWeight = 2 ^ 63 from by decide, Nat.xor_mod_two_pow, Nat.mod_self, Nat.xor_zero]
theorem halfS_rg {r : Nat} (h : rg FloatKind.f64.format r ≤ 4616189618054758400) : rg FloatKind.f64.format (halfS r) ≤ 5066549580791808000 := by
  have key : ∀ y, rg FloatKind.f64.format y ≤ 4620693217682128896 → rg FloatKind.f64.format (fop .mul .f64 (fop .mul .f64 y 4618760256179416344) (poly (fop .mul .f64 (fop .mul .f64 y 4618760256179416344) (fop .mul .f64 y 4618760256179416344)))) ≤ 5066549580791808000 := by
    intro y hy
    have g1 : rg FloatKind.f64.format (fop .mul .f64 y 4618760256179416344) ≤ 4634204016564240384 := mul_rg (N := 1074) hy (show rg FloatKind.f64.format 4618760256179416344 ≤ 4618760256179416344 by decide +kernel) (by decide +kernel) (by decide +kernel) (by decide +kernel) (by decide +kernel)
    have g2 : rg FloatKind.f64.format (fop .mul .f64 (fop .mul .f64 y 4618760256179416344) (fop .mul .f64 y 4618760256179416344)) ≤ 4661225614328463360 := mul_rg (N := 1074) g1 g1 (by decide +kernel) (by decide +kernel) (by decide +kernel) (by decide +kernel)
    exact mul_rg (N := 1074) g1 (poly_rg g2) (by decide +kernel) (by decide +kernel) (by decide +kernel) (by decide +kernel)
  unfold halfS
  split
  · exact key _ (sub_rg (show rg FloatKind.f64.format 4602678819172646912 ≤ 4602678819172646912 by decide +kernel) h (by decide +kernel) (by decide +kernel) (by decide +kernel))
  · exact key _ (Nat.le_trans h (by decide))
theorem sineV_rg {x : Nat} (h : smallB x = true) : rg FloatKind.f64.format (sineV x) ≤ 5066549580791808000 := by
  have g0 := zz_rg h
  have g1 : rg FloatKind.f64.format (qq x) ≤ 4611686018427387904 := by
    unfold qq
    split
    · exact add_rg g0 (show rg FloatKind.f64.format 4607182418800017408 ≤ 4607182418800017408 by decide +kernel) (by decide +kernel) (by decide +kernel) (by decide +kernel)
    · exact Nat.le_trans g0 (by decide)
  unfold sineV sineA
  generalize qq x = q at g1
  split
  · have g2 : rg FloatKind.f64.format (halfS (fop .sub .f64 q 4602678819172646912)) ≤ 5066549580791808000 := halfS_rg (sub_rg g1 (show rg FloatKind.f64.format 4602678819172646912 ≤ 4602678819172646912 by decide +kernel) (by decide +kernel) (by decide +kernel) (by decide +kernel))
    rw [rg_neg _ (finW_nan (finW_of g2 (by decide +kernel)))]
    exact g2
  · exact halfS_rg (Nat.le_trans g1 (by decide))
theorem sineV_down {x : Nat} (h : smallB x = true) : fcvB .f64 .f32 (sineV x) = true :=
  down_t (c := 1920991232) (N := 925) (sineV_rg h) (by decide +kernel) (by decide +kernel) (by decide +kernel) (by decide +kernel)
noncomputable def sineT (x : Nat) : Nat := if finB x = true then (if smallB (fcvV .f32 .f64 x) = true then fcvV .f64 .f32 (sineV (fcvV .f32 .f64 x)) else 0) else qn .f32
theorem math_NaN_eq : zdt = some (qn .f64) := by
  unfold zdt zdo
  rw [show okU .f64 9221120237041090561 = true from by decide +kernel, show cnI .f64 9221120237041090561 = qn .f64 from by decide +kernel]; rfl
theorem spec_l01SineWide_eq {x : Nat} (hb : smallB x = true) (hg : fcmp .geq .f64 x 4841369599423283200 = false) (hl : fcmp .leq .f64 x 14064741636278059008 = false) : z3c x = some (sineV x) := by
  obtain ⟨h0, _⟩ := small_int hb
  have h1 := fun u => (spec_sine_loop u).1
  have h2 := fun u => (spec_sine_loop u).2
  have h3 : fcmp .neq .f64 (fop .sub .f64 x x) 0 = false := by rw [subself_neq, small_fin hb]; rfl
  unfold z3c z46
  simp only [h0, h1, h2, h3, hg, hl, grd_true, br_false]
  unfold sineV sineA halfS qq zz
  generalize fop .sub .f64 x (fOI .f64 (f2iV .f64 x .i64)) = z
  cases fcmp .lss .f64 z 0
  · cases h5 : fcmp .geq .f64 z 4602678819172646912
    · cases hc : fcmp .gtr .f64 z 4598175219545276416 <;> simp [br, hc, h5]
    · cases hc : fcmp .gtr .f64 (fop .sub .f64 z 4602678819172646912) 4598175219545276416 <;> simp [br, hc, h5]
  · generalize fop .add .f64 z 4607182418800017408 = z
    cases h5 : fcmp .geq .f64 z 4602678819172646912
    · cases hc : fcmp .gtr .f64 z 4598175219545276416 <;> simp [br, hc, h5]
    · cases hc : fcmp .gtr .f64 (fop .sub .f64 z 4602678819172646912) 4598175219545276416 <;> simp [br, hc, h5]
theorem spec_l01Narrow_eq {x : Nat} (h : fcvB .f64 .f32 x = true) : z6v x = some (fcvV .f64 .f32 x) := by
  unfold z6v z6w
  rw [h]; rfl
theorem spec_l01Sine_eq (x : Nat) : z6x x = some (sineT x) := by
  have key : ∀ v, z3c (fcvV .f32 .f64 x) = some v → fcvB .f64 .f32 v = true → z6x x = some (fcvV .f64 .f32 v) := by
    intro v h1 h2
    obtain ⟨p1, q1⟩ := zkz h1
    obtain ⟨p2, q2⟩ := zls (spec_l01Narrow_eq h2)
    unfold z6x z8t
    rw [p1, q1, p2, q2]; rfl
  unfold sineT
  cases hf : finB x
  · have h3 : fcmp .neq .f64 (fop .sub .f64 (fcvV .f32 .f64 x) (fcvV .f32 .f64 x)) 0 = true := by
      rw [subself_neq, up_fin, ← finB_eq, hf]; rfl
    obtain ⟨p2, q2⟩ := znv math_NaN_eq
    have := key (qn .f64) (by unfold z3c z46; rw [h3, p2, q2]; rfl) (by decide +kernel)
    rw [this, show fcvV .f64 .f32 (qn .f64) = qn .f32 from by decide +kernel]; rfl
  · have hf' := hf
    rw [finB_eq] at hf
    obtain ⟨s, r, e, hr⟩ := up_is hf
    have hh := spec_huge e hr
    have h3 : fcmp .neq .f64 (fop .sub .f64 (fcvV .f32 .f64 x) (fcvV .f32 .f64 x)) 0 = false := by
      rw [subself_neq, up_fin, hf]; rfl
    cases hs : smallB (fcvV .f32 .f64 x)
    · rw [hs] at hh
      have := key 0 (by
        unfold z3c z46
        rw [h3]
        cases hg : fcmp .geq .f64 (fcvV .f32 .f64 x) 4841369599423283200
        · rw [hg] at hh
          have hl : fcmp .leq .f64 (fcvV .f32 .f64 x) 14064741636278059008 = true := hh
          rw [hl]; rfl
        · rfl) (by decide +kernel)
      rw [this, show fcvV .f64 .f32 0 = 0 from by decide +kernel]; rfl
    · rw [hs] at hh
      have hg : fcmp .geq .f64 (fcvV .f32 .f64 x) 4841369599423283200 = false := by
        cases hg : fcmp .geq .f64 (fcvV .f32 .f64 x) 4841369599423283200 with
        | false => rfl
        | true => rw [hg] at hh; cases hh
      have hl : fcmp .leq .f64 (fcvV .f32 .f64 x) 14064741636278059008 = false := by
        rw [hg] at hh
        exact hh
      exact key _ (spec_l01SineWide_eq hs hg hl) (sineV_down hs)
def plateA (n i : Nat) : Nat := fop .sub .f32 (fop .quo .f32 (fOI .f32 (Int.ofNat i)) (fOI .f32 (subI .i64 (Int.ofNat n) 1))) 1056964608
noncomputable def plateL (n i : Nat) : Nat := fop .mul .f32 (fop .mul .f32 1073741824 (sineT (plateA n i))) (sineT (fop .add .f32 (plateA n i) 1048576000))
noncomputable def plateD (n i : Nat) : Nat := fop .mul .f32 (fop .mul .f32 1073741824 (sineT (plateA n i))) (sineT (plateA n i))
def listOf (f : Nat → Nat) (n : Nat) : List Nat := (List.range n).map f
theorem listOf_length (f : Nat → Nat) (n : Nat) : (listOf f n).length = n := by simp [listOf]
theorem listOf_succ (f : Nat → Nat) (n : Nat) : listOf f (n + 1) = listOf f n ++ [f n] := by simp [listOf, List.range_succ]
theorem spec_Plate_loop {n : Nat} (hn : n ≤ 24) :
    z0p (Int.ofNat n) big 0 0 0 0 [] [] [] = some (Int.ofNat n, false, n, n, n, listOf (plateA n) n, listOf (plateL n) n, listOf (plateD n) n) := by
  have := runs (L := fun m i => z0p (Int.ofNat n) m i i.toNat i.toNat i.toNat (listOf (plateA n) i.toNat) (listOf (plateL n) i.toNat) (listOf (plateD n) i.toNat)) (len := n) (e := (Int.ofNat n, false, n, n, n, listOf (plateA n) n, listOf (plateL n) n, listOf (plateD n) n))
    (fun m i hi => by
      show z0p _ _ _ i i i (listOf (plateA n) i) (listOf (plateL n) i) (listOf (plateD n) i) = z0p _ _ _ (i + 1) (i + 1) (i + 1) (listOf (plateA n) (i + 1)) (listOf (plateL n) (i + 1)) (listOf (plateD n) (i + 1))
      obtain ⟨p1, q1⟩ := zig (spec_l01Sine_eq (plateA n i))
      obtain ⟨p2, q2⟩ := zig (spec_l01Sine_eq (fop .add .f32 (plateA n i) 1048576000))
      rw [zdx]; unfold z3a
      rw [ltN_t hi, addI1 (by omega), okA2_1 _ (b := listOf (plateA n) i) (listOf_length _ _) (by omega), okA2_1 _ (b := listOf (plateL n) i) (listOf_length _ _) (by omega), okA2_1 _ (b := listOf (plateD n) i) (listOf_length _ _) (by omega), listOf_succ, listOf_succ, listOf_succ]
      show br _ (grd (z6t (plateA n i)) (grd (z6t (fop .add .f32 (plateA n i) 1048576000)) (grd _ (grd _ (grd _ (z0p _ _ _ _ _ _ (aF _ (pF [plateA n i] 0 (muN 1 1))) (aF _ (pF [fop .mul .f32 (fop .mul .f32 1073741824 (z27 (plateA n i))) (z27 (fop .add .f32 (plateA n i) 1048576000))] 0 (muN 1 1))) (aF _ (pF [fop .mul .f32 (fop .mul .f32 1073741824 (z27 (plateA n i))) (z27 (plateA n i))] 0 (muN 1 1))))))))) _ = _
      rw [p1, q1, p2, q2]
      rfl)
    (fun m => by
      show z0p _ _ _ n n n (listOf (plateA n) n) (listOf (plateL n) n) (listOf (plateD n) n) = _
      rw [zdx]; unfold z3a; rw [ltN_f (Nat.le_refl _)]; rfl) (by omega)
  exact this
theorem down_nan {y : Nat} (hn : nanB .f64 y = false) (h : fcvB .f64 .f32 y = true) : nanB .f32 (fcvV .f64 .f32 y) = false := by
  unfold fcvB at h
  obtain ⟨r, hr⟩ := Option.isSome_iff_exists.1 h
  have hv : fcvV .f64 .f32 y = r := by unfold fcvV; rw [hr]; rfl
  rw [hv]
  unfold fcv at hr
  rw [hn] at hr
  simp only [Bool.false_eq_true, if_false] at hr
  unfold floatToFloatBits at hr
  rw [if_neg (by intro h; cases h)] at hr
  split at hr
  · cases hr
  · cases hr
    exact nanB_word .f32 _ (Nat.le_refl _)
  · split at hr
    · cases hr
    · cases hr
      show nanB .f32 (FloatKind.f32.format.nearest _ _ _) = false
      rw [(nearest_word _ _ _ _).1]
      exact nanB_word .f32 _ (rnd_inf _ _ _)
noncomputable def wrapY (x : Nat) : Nat := fop .sub .f64 (fcvV .f32 .f64 x) (fint .down (fop .add .f64 (fcvV .f32 .f64 x) 4602678819172646912))
noncomputable def wrapV (x : Nat) : Nat := if fcmp .geq .f32 (fcvV .f64 .f32 (wrapY x)) 1056964608 = true then 3204448256 else fcvV .f64 .f32 (wrapY x)
theorem up_max {x : Nat} (h : finB x = true) : finW .f64 (fcvV .f32 .f64 x) = true ∧ rg FloatKind.f64.format (fcvV .f32 .f64 x) ≤ 5183643171103440896 := by
  rw [finB_eq] at h
  have h1 : rg FloatKind.f32.format x ≤ 2139095039 := by
    have := finW_lt h
    have hi : FloatKind.f32.format.infRung = 2139095040 := by decide
    omega
  exact ⟨by rw [up_fin, h], up_rg (N := 925) h1 (by decide +kernel) (by decide +kernel) (by decide +kernel)⟩
theorem wrapV_nan {x : Nat} (h : finB x = true) : nanB .f32 (wrapV x) = false := by
  obtain ⟨h1, h2⟩ := up_max h
  obtain ⟨w1, w2, w3⟩ := wrap_down h1 h2
  unfold wrapV
  split
  · decide +kernel
  · exact down_nan w3 w2
theorem impl_wrapAngle_eq {x : Nat} (h : finB x = true) : z6r x = some (wrapV x) := by
  obtain ⟨h1, h2⟩ := up_max h
  obtain ⟨w1, w2, w3⟩ := wrap_down h1 h2
  obtain ⟨p, q⟩ := znp (math_Floor_eq w1)
  unfold z6r z6s wrapV wrapY
  rw [p, q, w2, br_if]
  split <;> rfl
theorem rnd_pos (f : Ieee.Format) {m : Nat} (h : 0 < m) (hi : 1 ≤ f.infRung) (hb : rungV f 1 ≤ 1) : rnd f m f.leastPlace ≠ 0 := by
  have := le_rnd f (m := m) (r := 1) (u := 0) (v := 0) (place := f.leastPlace) hi rfl (by rw [Nat.pow_zero, Nat.mul_one, Nat.mul_one]; omega)
  omega
theorem sub_zero {x y : Nat} (hx : finW .f32 x = true) (hy : finW .f32 y = true) : fcmp .eql .f32 (fop .sub .f32 x y) 0 = fcmp .eql .f32 x y := by
  have hsub := sub_word hx hy
  have hn : nanB .f32 (fop .sub .f32 x y) = false := by rw [hsub]; exact nanB_word .f32 _ (rnd_inf _ _ _)
  rw [(fcmp_num .f32 hn nan_zero).1, (fcmp_num .f32 (finW_nan hx) (finW_nan hy)).1]
  have hr : rg FloatKind.f32.format (fop .sub .f32 x y) = rnd FloatKind.f32.format (vl .f32 x - vl .f32 y).natAbs (lp .f32) := by rw [hsub]; exact rg_word _ _ (rnd_inf _ _ _)
  have h0 : srung FloatKind.f32.format 0 = 0 := by decide +kernel
  rw [h0]
  have e1 : srung FloatKind.f32.format (fop .sub .f32 x y) = 0 ↔ vl .f32 x = vl .f32 y := by
    have : srung FloatKind.f32.format (fop .sub .f32 x y) = 0 ↔ rg FloatKind.f32.format (fop .sub .f32 x y) = 0 := by
      unfold srung sg
      by_cases hs : ngB FloatKind.f32.format (fop .sub .f32 x y) = true
      · rw [if_pos hs]; omega
      · rw [if_neg hs]; omega
    rw [this, hr]
    constructor
    · intro h
      by_cases hd : (vl .f32 x - vl .f32 y).natAbs = 0
      · omega
      · exact absurd h (rnd_pos FloatKind.f32.format (by omega) (by decide) (by decide +kernel))
    · intro h
      have : (vl .f32 x - vl .f32 y).natAbs = 0 := by omega
      rw [this, rnd_zero]
  have e2 : vl .f32 x = vl .f32 y ↔ srung FloatKind.f32.format x = srung FloatKind.f32.format y := by
    have h := cmp_sg FloatKind.f32.format (nn .f32 x) (nn .f32 y) (rg FloatKind.f32.format x) (rg FloatKind.f32.format y)
    have key : ∀ a b : Int, compare a b = .eq ↔ a = b := by
      intro a b
      rw [cmp_int]
      by_cases h1 : a < b
      · rw [if_pos h1]; constructor
        · intro h; cases h
        · intro h; omega
      · rw [if_neg h1]
        by_cases h2 : a = b
        · rw [if_pos h2]; simp [h2]
        · rw [if_neg h2]; constructor
          · intro h; cases h
          · intro h; exact absurd h h2
    rw [← key, ← key]
    show compare (sg (nn .f32 x) (rungV _ _)) (sg (nn .f32 y) (rungV _ _)) = _ ↔ compare (sg _ _) (sg _ _) = _
    rw [h]; exact Iff.rfl
  exact decide_eq_decide.2 (e1.trans e2)
theorem neq_eql {x y : Nat} (hx : nanB .f32 x = false) (hy : nanB .f32 y = false) : fcmp .neq .f32 x y = !fcmp .eql .f32 y x := by
  rw [(fcmp_num .f32 hx hy).2.1, (fcmp_num .f32 hy hx).1]
  congr 1
  exact decide_eq_decide.2 ⟨Eq.symm, Eq.symm⟩
theorem scan_first {α β : Type} {L : Nat → Int → Option (α ⊕ β)} {len : Nat} (p : Nat → Bool) {g : Nat → α} {e : β}
    (hs : ∀ n i, i < len → L (n + 1) (Int.ofNat i) = if p i = true then L n (Int.ofNat (i + 1)) else some (.inl (g i)))
    (he : ∀ n, L (n + 1) (Int.ofNat len) = some (.inr e)) :
    ∀ k i n, i + k = len → k < n → ((∀ j, i ≤ j → j < len → p j = true) ∧ L n (Int.ofNat i) = some (.inr e)) ∨ ∃ j, i ≤ j ∧ j < len ∧ p j = false ∧ (∀ l, i ≤ l → l < j → p l = true) ∧ L n (Int.ofNat i) = some (.inl (g j))
  | 0, i, n, hk, hn => by
    obtain ⟨n, rfl⟩ : ∃ m, n = m + 1 := ⟨n - 1, by omega⟩
    obtain rfl : i = len := by omega
    exact .inl ⟨fun j h1 h2 => by omega, he n⟩
  | k + 1, i, n, hk, hn => by
    obtain ⟨n, rfl⟩ : ∃ m, n = m + 1 := ⟨n - 1, by omega⟩
    have hi : i < len := by omega
    rw [hs n i hi]
    cases hp : p i with
    | false => exact .inr ⟨i, Nat.le_refl _, hi, hp, fun l h1 h2 => by omega, by simp⟩
    | true =>
      simp only [if_pos]
      rcases scan_first p hs he k (i + 1) n (by omega) (by omega) with ⟨h1, h2⟩ | ⟨j, h1, h2, h3, h5, h4⟩
      · refine .inl ⟨fun j h3 h4 => ?_, h2⟩
        by_cases e : j = i
        · rw [e]; exact hp
        · exact h1 j (by omega) h4
      · refine .inr ⟨j, by omega, h2, h3, fun l h6 h7 => ?_, h4⟩
        by_cases e : l = i
        · rw [e]; exact hp
        · exact h5 l (by omega) h7
theorem knot_rg {as : List Nat} {j : Nat} (h : knotB as j = true) : rg FloatKind.f32.format (as.getD j 0) ≤ 1056964608 := by
  unfold knotB fromToB at h
  simp only [Bool.and_eq_true] at h
  exact between_rg (k := .f32) (by decide +kernel) (by decide +kernel) (by decide +kernel) (by decide +kernel) h.1.1 h.1.2
def aboveB (as : List Nat) (t j : Nat) : Bool := fcmp .gtr .f32 (as.getD j 0) t
theorem impl_between_find {as : List Nat} {t : Nat} (hl : as.length ≤ 24) :
    ((∀ j, j < as.length → aboveB as t j = false) ∧ z08 as.length (Int.ofNat as.length) as t big 0 = some (.inr (Int.ofNat as.length, false))) ∨
    ∃ j, j < as.length ∧ aboveB as t j = true ∧ (∀ l, l < j → aboveB as t l = false) ∧ z08 as.length (Int.ofNat as.length) as t big 0 = some (.inl (Int.ofNat j)) := by
  rcases scan_first (L := z08 as.length (Int.ofNat as.length) as t) (len := as.length) (fun j => !aboveB as t j) (g := fun j => Int.ofNat j) (e := (Int.ofNat as.length, false))
    (fun n i hi => by
      rw [z4o]; unfold z0k
      rw [ltN_t hi, okIx_t hi, ix1, addI1 (by omega)]
      unfold aboveB
      simp only [gF, br_true, grd_true]
      cases fcmp .gtr .f32 (as.getD i 0) t <;> rfl)
    (fun n => by rw [z4o]; unfold z0k; rw [ltN_f (Nat.le_refl _)]; rfl) as.length 0 big (by omega) (big_gt (by omega)) with ⟨h1, h2⟩ | ⟨j, _, h2, h3, h4, h5⟩
  · exact .inl ⟨fun j hj => by simpa using h1 j (Nat.zero_le _) hj, h2⟩
  · exact .inr ⟨j, h2, by simpa using h3, fun l hl => by simpa using h4 l (Nat.zero_le _) hl, h5⟩
def pairR (as : List Nat) (j : Nat) : Nat × Nat × Nat × Nat :=
  if j = 0 then (as.length - 1, 0, fop .sub .f32 (as.getD (as.length - 1) 0) 1065353216, as.getD 0 0)
  else if j = as.length then (as.length - 1, 0, as.getD (as.length - 1) 0, fop .add .f32 (as.getD 0 0) 1065353216)
  else (j - 1, j, as.getD (j - 1) 0, as.getD j 0)
theorem prof_knots {as ls ds : List Nat} (h : validProfB as ls ds = true) : ∀ j, j < as.length → knotB as j = true := by
  unfold validProfB at h
  simp only [Bool.and_eq_true] at h
  intro j hj
  have := range_all.1 h.2.2.2.2 j hj
  unfold profB at this
  rw [Bool.and_eq_true] at this
  exact this.1
theorem knots_fin {as ls ds : List Nat} {j : Nat} (hv : validProfB as ls ds = true) (hj : j ≤ as.length) : finW .f32 (pairR as j).2.2.1 = true ∧ finW .f32 (pairR as j).2.2.2 = true ∧ (pairR as j).1 < as.length ∧ (pairR as j).2.1 < as.length := by
  obtain ⟨c1, c2, c3, c4⟩ := validProfB_len hv
  have hk := prof_knots hv
  have hf : ∀ i, i < as.length → rg FloatKind.f32.format (as.getD i 0) ≤ 1056964608 := fun i hi => knot_rg (hk i hi)
  have h1 : ∀ i, i < as.length → finW .f32 (as.getD i 0) = true := fun i hi => finW_of (hf i hi) (by decide +kernel)
  unfold pairR
  split
  · refine ⟨?_, h1 0 (by omega), by show as.length - 1 < as.length; omega, by show 0 < as.length; omega⟩
    exact finW_of (sub_rg (c := 1073741824) (hf _ (by omega)) (show rg FloatKind.f32.format 1065353216 ≤ 1065353216 by decide +kernel) (by decide +kernel) (by decide +kernel) (by decide +kernel)) (by decide +kernel)
  · split
    · refine ⟨h1 _ (by omega), ?_, by show as.length - 1 < as.length; omega, by show 0 < as.length; omega⟩
      exact finW_of (add_rg (c := 1073741824) (hf _ (by omega)) (show rg FloatKind.f32.format 1065353216 ≤ 1065353216 by decide +kernel) (by decide +kernel) (by decide +kernel) (by decide +kernel)) (by decide +kernel)
    · exact ⟨h1 _ (by omega), h1 _ (by omega), by show j - 1 < as.length; omega, by show j < as.length; omega⟩
def byteL (xs : List Int) : Prop := ∀ x ∈ xs, 0 ≤ x ∧ x ≤ 255
theorem byteL_get {xs : List Int} (h : byteL xs) (k : Nat) : 0 ≤ xs.getD k 0 ∧ xs.getD k 0 ≤ 255 := by
  rw [List.getD_eq_getElem?_getD]
  cases hk : xs[k]? with
  | none => exact ⟨by simp, by simp⟩
  | some x => exact h x (List.mem_of_getElem? hk)
theorem u64_small {n : Nat} (h : n ≤ 255) : IntKind.u64.wrap (n : Int) = n := by
  unfold IntKind.wrap
  simp [IntKind.signed, IntKind.bits]
  omega
theorem and255 (x : Int) : 0 ≤ bitI .and .u64 x 255 ∧ bitI .and .u64 x 255 ≤ 255 := by
  have hle : (BitVec.ofInt 64 x &&& BitVec.ofInt 64 255).toNat ≤ 255 := by
    rw [BitVec.toNat_and]
    exact Nat.le_trans Nat.and_le_right (by decide)
  have e : bitI .and .u64 x 255 = ((BitVec.ofInt 64 x &&& BitVec.ofInt 64 255).toNat : Int) := u64_small hle
  rw [e]
  omega
def nxO (b0 : List Int) (b2_0n : Nat) (b2_1 b2_2 : Int) : Option (Int × Int × Int) :=
  (br (ltI b2_1 (Int.ofNat b2_0n)) (grd (okIx b2_1 b2_0n) (br (leI (addI IntKind.i64 b2_1 1) (Int.ofNat b2_0n)) (some (cvI IntKind.i64 (gI b0 (ixO 0 b2_1 1)), addI IntKind.i64 b2_1 1, addI IntKind.u64 (addI IntKind.u64 (mulI IntKind.u64 b2_2 6364136223846793005) (cvI IntKind.u64 (cvI IntKind.i64 (gI b0 (ixO 0 b2_1 1))))) 1442695040888963407)) (some (cvI IntKind.i64 (bitI BinOp.and IntKind.u64 (shI Bool.false IntKind.u64 (addI IntKind.u64 (addI IntKind.u64 (mulI IntKind.u64 b2_2 6364136223846793005) (cvI IntKind.u64 (cvI IntKind.i64 (gI b0 (ixO 0 b2_1 1))))) 1442695040888963407) 40) 255), addI IntKind.i64 b2_1 1, addI IntKind.u64 (addI IntKind.u64 (mulI IntKind.u64 b2_2 6364136223846793005) (cvI IntKind.u64 (cvI IntKind.i64 (gI b0 (ixO 0 b2_1 1))))) 1442695040888963407)))) (br (leI (addI IntKind.i64 b2_1 1) (Int.ofNat b2_0n)) (some (0, addI IntKind.i64 b2_1 1, addI IntKind.u64 (addI IntKind.u64 (mulI IntKind.u64 b2_2 6364136223846793005) (cvI IntKind.u64 0)) 1442695040888963407)) (some (cvI IntKind.i64 (bitI BinOp.and IntKind.u64 (shI Bool.false IntKind.u64 (addI IntKind.u64 (addI IntKind.u64 (mulI IntKind.u64 b2_2 6364136223846793005) (cvI IntKind.u64 0)) 1442695040888963407) 40) 255), addI IntKind.i64 b2_1 1, addI IntKind.u64 (addI IntKind.u64 (mulI IntKind.u64 b2_2 6364136223846793005) (cvI IntKind.u64 0)) 1442695040888963407))))
theorem i64_byte {x : Int} (h : 0 ≤ x ∧ x ≤ 255) : 0 ≤ cvI .i64 x ∧ cvI .i64 x ≤ 255 := by
  have : cvI .i64 x = x := wrap64 (by omega) (by omega)
  rw [this]; exact h
theorem nx_ok {xs : List Int} {n : Nat} {a s : Int} (hx : byteL xs) (h0 : 0 ≤ a) (h1 : a ≤ 1099511627776) :
    ∃ r a' s', nxO xs n a s = some (r, a', s') ∧ (0 ≤ r ∧ r ≤ 255) ∧ (0 ≤ a' ∧ a' ≤ a + 1) := by
  have e1 : addI .i64 a 1 = a + 1 := wrap64 (by omega) (by omega)
  unfold nxO
  rw [e1]
  cases hlt : ltI a (Int.ofNat n)
  · rw [br_false]
    cases leI (a + 1) (Int.ofNat n)
    · exact ⟨_, _, _, rfl, i64_byte (and255 _), by omega⟩
    · exact ⟨_, _, _, rfl, by omega, by omega⟩
  · have hlt' := of_decide_eq_true hlt
    have hok : okIx a n = true := decide_eq_true ⟨h0, hlt'⟩
    rw [br_true, hok, grd_true]
    cases leI (a + 1) (Int.ofNat n)
    · exact ⟨_, _, _, rfl, i64_byte (and255 _), by omega⟩
    · exact ⟨_, _, _, rfl, i64_byte (byteL_get hx _), by omega⟩
theorem pick_in {r : Int} (h : 0 ≤ r ∧ r ≤ 255) {m : Int} (hm : 0 < m) : 0 ≤ remI r m ∧ remI r m < m := ⟨Int.tmod_nonneg _ h.1, Int.tmod_lt_of_pos _ hm⟩
def x32 (u : Int) : Nat := fop .quo .f32 (fOI .f32 u) 1107296256
def l8 (u : Int) : Nat := fop .quo .f32 (fOI .f32 u) 1090519040
def q4 (u : Int) : Nat := fop .quo .f32 (fOI .f32 u) 1082130432
def t64 (u : Int) : Nat := fop .quo .f32 (fOI .f32 u) 1115684864
theorem x32_add (u : Fin 33) (k : Fin 5) : fop .add .f32 (x32 ((u : Int) - 16)) (x32 (k : Int)) = x32 ((u : Int) - 16 + k) := by revert u k; decide +kernel
theorem x32_rg (u : Fin 33) : rg FloatKind.f32.format (x32 ((u : Int) - 16)) ≤ 1056964608 ∧ fromToB (x32 ((u : Int) - 16)) 3204448256 1056964608 = true := by revert u; decide +kernel
theorem d32_least (u : Fin 17) : leastB (x32 (u : Int)) = true ∧ rg FloatKind.f32.format (x32 (u : Int)) ≤ 1056964608 := by revert u; decide +kernel
def climb : Int → List Int → Prop
  | _, [] => True
  | u, v :: r => v = u ∧ ∃ k, 1 ≤ k ∧ k ≤ 4 ∧ climb (u + k) r
theorem x32_step {u k : Int} (h1 : -16 ≤ u) (h2 : u ≤ 16) (h3 : 0 ≤ k) (h4 : k ≤ 4) : fop .add .f32 (x32 u) (x32 k) = x32 (u + k) := by
  have := x32_add ⟨(u + 16).toNat, by omega⟩ ⟨k.toNat, by omega⟩
  simp only at this
  rw [show (((u + 16).toNat : Int)) - 16 = u by omega, show ((k.toNat : Int)) = k by omega] at this
  exact this
theorem spec_l02Plate_eq {n : Nat} (hn : n ≤ 24) : z3d (Int.ofNat n) = some (n, n, n, listOf (plateA n) n, listOf (plateL n) n, listOf (plateD n) n) := by
  obtain ⟨g1, _, _, g2, g3, g4, g5, g6, g7⟩ := zk8 rfl (spec_Plate_loop hn)
  obtain ⟨n0, n1, n2, n3⟩ := zj6 (show z6g = some ([], [], []) from rfl)
  unfold z3d z7d
  simp only [n0, n1, n2, n3, g1, g2, g3, g4, g5, g6, g7, grd_true]
def DrawnP (as ls ds : List Nat) : Prop :=
  (∃ m : Nat, 2 ≤ m ∧ m ≤ 9 ∧ as = listOf (plateA m) m ∧ ls = listOf (plateL m) m ∧ ds = listOf (plateD m) m) ∨
  ∃ (u : Int) (us vs ws : List Int), -16 ≤ u ∧ u ≤ -8 ∧ climb u us ∧ 2 ≤ us.length ∧ us.length ≤ 6 ∧ vs.length = us.length ∧ ws.length = us.length ∧ (∀ v ∈ vs, -6 ≤ v ∧ v ≤ 10) ∧ (∀ v ∈ ws, 0 ≤ v ∧ v ≤ 8) ∧ as = us.map x32 ∧ ls = vs.map l8 ∧ ds = ws.map x32
theorem plates_valid (m : Fin 8) : validProfB (listOf (plateA (m.val + 2)) (m.val + 2)) (listOf (plateL (m.val + 2)) (m.val + 2)) (listOf (plateD (m.val + 2)) (m.val + 2)) = true := by revert m; decide +kernel
theorem grid_leq (u v : Fin 33) : fcmp .leq .f32 (x32 ((u : Int) - 16)) (x32 ((v : Int) - 16)) = decide (u ≤ v) := by revert u v; decide +kernel
theorem grid_lift (v : Fin 33) : finB (l8 ((v : Int) - 16)) = true ∧ rg FloatKind.f32.format (l8 ((v : Int) - 16)) ≤ 1082130432 := by revert v; decide +kernel
theorem climb_get : ∀ {us : List Int} {u : Int}, climb u us → ∀ j, j < us.length → u + j ≤ us.getD j 0 ∧ us.getD j 0 ≤ u + 4 * j
  | [], u, _, j, hj => by simp at hj
  | v :: r, u, h, 0, _ => by
    obtain ⟨rfl, _⟩ := h
    simp
  | v :: r, u, h, j + 1, hj => by
    obtain ⟨rfl, k, h1, h2, h3⟩ := h
    have := climb_get h3 j (by simpa using hj)
    simp only [List.getD_cons_succ]
    omega
theorem climb_next : ∀ {us : List Int} {u : Int}, climb u us → ∀ j, j + 1 < us.length → ∃ k, 1 ≤ k ∧ k ≤ 4 ∧ us.getD (j + 1) 0 = us.getD j 0 + k
  | [], u, _, j, hj => by simp at hj
  | v :: r, u, h, 0, hj => by
    obtain ⟨rfl, k, h1, h2, h3⟩ := h
    refine ⟨k, h1, h2, ?_⟩
    cases r with
    | nil => simp at hj
    | cons w r => obtain ⟨rfl, _⟩ := h3; simp
  | v :: r, u, h, j + 1, hj => by
    obtain ⟨rfl, k, h1, h2, h3⟩ := h
    have := climb_next h3 j (by simpa using hj)
    simpa using this
theorem map_getD (f : Int → Nat) (us : List Int) {j : Nat} (h : j < us.length) : (us.map f).getD j 0 = f (us.getD j 0) := by
  simp [List.getD_eq_getElem?_getD, h]
theorem gleq {a b : Int} (h1 : -16 ≤ a) (h2 : a ≤ 16) (h3 : -16 ≤ b) (h4 : b ≤ 16) : fcmp .leq .f32 (x32 a) (x32 b) = decide (a ≤ b) := by
  have := grid_leq ⟨(a + 16).toNat, by omega⟩ ⟨(b + 16).toNat, by omega⟩
  simp only [Fin.mk_le_mk] at this
  rw [show (((a + 16).toNat : Int)) - 16 = a by omega, show (((b + 16).toNat : Int)) - 16 = b by omega] at this
  rw [this]
  by_cases h : a ≤ b
  · rw [decide_eq_true h, decide_eq_true (by omega)]
  · rw [decide_eq_false h, decide_eq_false (by omega)]
theorem gfrom {a : Int} (h1 : -16 ≤ a) (h2 : a ≤ 16) : fromToB (x32 a) 3204448256 1056964608 = true := by
  have := (x32_rg ⟨(a + 16).toNat, by omega⟩).2
  simp only at this
  rw [show (((a + 16).toNat : Int)) - 16 = a by omega] at this
  exact this
theorem glift {a : Int} (h1 : -16 ≤ a) (h2 : a ≤ 16) : finB (l8 a) = true ∧ rg FloatKind.f32.format (l8 a) ≤ 1082130432 := by
  have := grid_lift ⟨(a + 16).toNat, by omega⟩
  simp only at this
  rw [show (((a + 16).toNat : Int)) - 16 = a by omega] at this
  exact this
theorem gdrag {a : Int} (h1 : 0 ≤ a) (h2 : a ≤ 16) : leastB (x32 a) = true ∧ rg FloatKind.f32.format (x32 a) ≤ 1082130432 := by
  have := d32_least ⟨a.toNat, by omega⟩
  simp only at this
  rw [show ((a.toNat : Int)) = a by omega] at this
  exact ⟨this.1, by omega⟩
theorem getD_mem {xs : List Int} {j : Nat} (h : j < xs.length) : xs.getD j 0 ∈ xs := by
  simp [List.getD_eq_getElem?_getD, h]
theorem drawn_valid {as ls ds : List Nat} (h : DrawnP as ls ds) : validProfB as ls ds = true := by
  rcases h with ⟨m, h1, h2, rfl, rfl, rfl⟩ | ⟨u, us, vs, ws, hu1, hu2, hc, hn1, hn2, hv, hw, hvs, hws, rfl, rfl, rfl⟩
  · have := plates_valid ⟨m - 2, by omega⟩
    simp only at this
    rw [show m - 2 + 2 = m by omega] at this
    exact this
  · unfold validProfB
    simp only [List.length_map, Bool.and_eq_true, decide_eq_true_eq]
    refine ⟨hn1, by omega, hv, hw, range_all.2 fun j hj => ?_⟩
    have hg := climb_get hc j hj
    unfold profB knotB
    rw [map_getD x32 us hj, map_getD l8 vs (by omega), map_getD x32 ws (by omega), gfrom (by omega) (by omega)]
    have hl := hvs _ (getD_mem (xs := vs) (j := j) (by omega))
    have hd := hws _ (getD_mem (xs := ws) (j := j) (by omega))
    rw [(glift (by omega) (by omega)).1, (gdrag hd.1 (by omega)).1]
    by_cases h0 : j = 0
    · subst h0; rfl
    · obtain ⟨i, rfl⟩ : ∃ i, j = i + 1 := ⟨j - 1, by omega⟩
      have hg' := climb_get hc i (by omega)
      obtain ⟨k, k1, k2, k3⟩ := climb_next hc i hj
      rw [show i + 1 - 1 = i by omega, map_getD x32 us (by omega), gleq (by omega) (by omega) (by omega) (by omega), decide_eq_false (show ¬ us.getD (i + 1) 0 ≤ us.getD i 0 by omega)]
      simp
theorem pair_eq2 {as ls ds : List Nat} {x : Nat} (hv : validProfB as ls ds = true) (hx : finB x = true) : ∃ j, j ≤ as.length ∧ (∀ l, l < j → aboveB as (wrapV x) l = false) ∧ (j < as.length → aboveB as (wrapV x) j = true) ∧
    z1t as.length as ls.length ls ds.length ds x = some (Int.ofNat (pairR as j).1, Int.ofNat (pairR as j).2.1, (pairR as j).2.2.1, (pairR as j).2.2.2, wrapV x) := by
  obtain ⟨c1, c2, c3, c4⟩ := validProfB_len hv
  have ht := wrapV_nan hx
  obtain ⟨p1, q1⟩ := zgy (impl_wrapAngle_eq hx)
  have hn1 : subI .i64 (Int.ofNat as.length) 1 = Int.ofNat (as.length - 1) := subN1 (by omega) (by omega)
  have o1 : okIx (Int.ofNat (as.length - 1)) as.length = true := okIx_t (by omega)
  have o0 : okIx 0 as.length = true := okIx_t (i := 0) (by omega)
  have i0 : ixO 0 0 1 = 0 := rfl
  generalize wrapV x = t at ht q1 ⊢
  rcases impl_between_find (t := t) c2 with ⟨k1, k2⟩ | ⟨j, k1, k2, k3, k4⟩
  · refine ⟨as.length, Nat.le_refl _, k1, fun h => absurd h (by omega), ?_⟩
    obtain ⟨g1, g2, _⟩ := z9e rfl k2
    have hr : pairR as as.length = (as.length - 1, 0, as.getD (as.length - 1) 0, fop .add .f32 (as.getD 0 0) 1065353216) := by unfold pairR; rw [if_neg (by omega), if_pos rfl]
    rw [hr]
    unfold z1t z3i
    simp only [p1, q1, g1, g2, hn1, o1, o0, ix1, i0, gF, grd_true, br_false]
    rfl
  · refine ⟨j, by omega, k3, fun _ => k2, ?_⟩
    obtain ⟨g1, g2, g3⟩ := z9d rfl k4
    unfold z1t z3i
    simp only [p1, q1, g1, g2, g3, grd_true, br_true]
    by_cases h0 : j = 0
    · subst h0
      have hr : pairR as 0 = (as.length - 1, 0, fop .sub .f32 (as.getD (as.length - 1) 0) 1065353216, as.getD 0 0) := by unfold pairR; rw [if_pos rfl]
      rw [hr, eqN0]
      simp only [hn1, o1, o0, ix1, i0, gF, grd_true, br_true, decide_eq_true (rfl : (0 : Nat) = 0)]
      rfl
    · have hr : pairR as j = (j - 1, j, as.getD (j - 1) 0, as.getD j 0) := by unfold pairR; rw [if_neg h0, if_neg (by omega)]
      rw [hr, eqN0, decide_eq_false h0, show ltI (Int.ofNat j) 0 = false from ltI_f (by simp), subN1 h0 (by omega), okIx_t (show j - 1 < as.length by omega), okIx_t k1, ix1, ix1]
      rfl
theorem t64_mg (m : Fin 65) : mg .f32 (t64 (m : Int)) = m.val * 2 ^ 143 ∧ finW .f32 (t64 (m : Int)) = true ∧ nn .f32 (t64 (m : Int)) = false := by revert m; decide +kernel
theorem x32_mg (m : Fin 33) : mg .f32 (x32 (m : Int)) = m.val * 2 ^ 144 ∧ finW .f32 (x32 (m : Int)) = true ∧ nn .f32 (x32 (m : Int)) = false := by revert m; decide +kernel
theorem t_sub (q : Fin 64) (k : Fin 64) : fop .sub .f32 (t64 ((q : Int) - 32)) (x32 ((k : Int) - 47)) = t64 ((q : Int) - 32 - 2 * ((k : Int) - 47)) := by revert q k; decide +kernel
theorem x_sub (h : Fin 65) (k : Fin 64) : fop .sub .f32 (x32 ((h : Int) - 16)) (x32 ((k : Int) - 47)) = x32 ((h : Int) - 16 - ((k : Int) - 47)) := by revert h k; decide +kernel
theorem x_down (k : Fin 33) : fop .sub .f32 (x32 ((k : Int) - 16)) 1065353216 = x32 ((k : Int) - 16 - 32) := by revert k; decide +kernel
theorem x_up (k : Fin 33) : fop .add .f32 (x32 ((k : Int) - 16)) 1065353216 = x32 ((k : Int) - 16 + 32) := by revert k; decide +kernel
theorem x_gtr (k : Fin 33) (q : Fin 64) : fcmp .gtr .f32 (x32 ((k : Int) - 16)) (t64 ((q : Int) - 32)) = decide ((q : Int) - 32 < 2 * ((k : Int) - 16)) := by revert k q; decide +kernel
theorem x_zero (D : Fin 33) : 1 ≤ D.val → fcmp .eql .f32 (x32 (D : Int)) 0 = false := by revert D; decide +kernel
theorem l8_sub (a b : Fin 33) : finW .f32 (l8 ((a : Int) - 16)) = true ∧ finW .f32 (fop .sub .f32 (l8 ((b : Int) - 16)) (l8 ((a : Int) - 16))) = true ∧ vl .f32 (fop .sub .f32 (l8 ((b : Int) - 16)) (l8 ((a : Int) - 16))) = vl .f32 (l8 ((b : Int) - 16)) - vl .f32 (l8 ((a : Int) - 16)) := by revert a b; decide +kernel
theorem d32_sub (a b : Fin 17) : finW .f32 (x32 (a : Int)) = true ∧ finW .f32 (fop .sub .f32 (x32 (b : Int)) (x32 (a : Int))) = true ∧ vl .f32 (fop .sub .f32 (x32 (b : Int)) (x32 (a : Int))) = vl .f32 (x32 (b : Int)) - vl .f32 (x32 (a : Int)) := by revert a b; decide +kernel
theorem frac_unit {m D : Nat} (h1 : m ≤ 2 * D) (h2 : 1 ≤ D) (h3 : D ≤ 32) : nn .f32 (fop .quo .f32 (t64 (m : Int)) (x32 (D : Int))) = false ∧ rg FloatKind.f32.format (fop .quo .f32 (t64 (m : Int)) (x32 (D : Int))) ≤ 1065353216 := by
  obtain ⟨a1, a2, a3⟩ := t64_mg ⟨m, by omega⟩
  obtain ⟨b1, b2, b3⟩ := x32_mg ⟨D, by omega⟩
  simp only at a1 a2 a3 b1 b2 b3
  have hp := Nat.two_pow_pos 143
  refine quo_unit a2 b2 a3 b3 ?_ ?_
  · rw [b1]; exact Nat.mul_pos (by omega) (Nat.two_pow_pos 144)
  · rw [a1, b1, show (2 : Nat) ^ 144 = 2 * 2 ^ 143 from rfl, ← Nat.mul_assoc]
    exact Nat.mul_le_mul_right _ (by omega)
theorem gt_sub {q k : Int} (h1 : -32 ≤ q) (h2 : q ≤ 31) (h3 : -47 ≤ k) (h4 : k ≤ 16) : fop .sub .f32 (t64 q) (x32 k) = t64 (q - 2 * k) := by
  have := t_sub ⟨(q + 32).toNat, by omega⟩ ⟨(k + 47).toNat, by omega⟩
  simp only at this
  rw [show (((q + 32).toNat : Int)) - 32 = q by omega, show (((k + 47).toNat : Int)) - 47 = k by omega] at this
  exact this
theorem gx_sub {h k : Int} (h1 : -16 ≤ h) (h2 : h ≤ 48) (h3 : -47 ≤ k) (h4 : k ≤ 16) : fop .sub .f32 (x32 h) (x32 k) = x32 (h - k) := by
  have := x_sub ⟨(h + 16).toNat, by omega⟩ ⟨(k + 47).toNat, by omega⟩
  simp only at this
  rw [show (((h + 16).toNat : Int)) - 16 = h by omega, show (((k + 47).toNat : Int)) - 47 = k by omega] at this
  exact this
theorem gx_down {k : Int} (h1 : -16 ≤ k) (h2 : k ≤ 16) : fop .sub .f32 (x32 k) 1065353216 = x32 (k - 32) := by
  have := x_down ⟨(k + 16).toNat, by omega⟩
  simp only at this
  rw [show (((k + 16).toNat : Int)) - 16 = k by omega] at this
  exact this
theorem gx_up {k : Int} (h1 : -16 ≤ k) (h2 : k ≤ 16) : fop .add .f32 (x32 k) 1065353216 = x32 (k + 32) := by
  have := x_up ⟨(k + 16).toNat, by omega⟩
  simp only at this
  rw [show (((k + 16).toNat : Int)) - 16 = k by omega] at this
  exact this
theorem gx_gtr {k q : Int} (h1 : -16 ≤ k) (h2 : k ≤ 16) (h3 : -32 ≤ q) (h4 : q ≤ 31) : fcmp .gtr .f32 (x32 k) (t64 q) = decide (q < 2 * k) := by
  have := x_gtr ⟨(k + 16).toNat, by omega⟩ ⟨(q + 32).toNat, by omega⟩
  simp only at this
  rw [show (((q + 32).toNat : Int)) - 32 = q by omega, show (((k + 16).toNat : Int)) - 16 = k by omega] at this
  exact this
theorem gl_sub {a b : Int} (h1 : -16 ≤ a) (h2 : a ≤ 16) (h3 : -16 ≤ b) (h4 : b ≤ 16) : finW .f32 (l8 a) = true ∧ finW .f32 (fop .sub .f32 (l8 b) (l8 a)) = true ∧ vl .f32 (fop .sub .f32 (l8 b) (l8 a)) = vl .f32 (l8 b) - vl .f32 (l8 a) := by
  have := l8_sub ⟨(a + 16).toNat, by omega⟩ ⟨(b + 16).toNat, by omega⟩
  simp only at this
  rw [show (((a + 16).toNat : Int)) - 16 = a by omega, show (((b + 16).toNat : Int)) - 16 = b by omega] at this
  exact this
theorem gd_sub {a b : Int} (h1 : 0 ≤ a) (h2 : a ≤ 16) (h3 : 0 ≤ b) (h4 : b ≤ 16) : finW .f32 (x32 a) = true ∧ finW .f32 (fop .sub .f32 (x32 b) (x32 a)) = true ∧ vl .f32 (fop .sub .f32 (x32 b) (x32 a)) = vl .f32 (x32 b) - vl .f32 (x32 a) := by
  have := d32_sub ⟨a.toNat, by omega⟩ ⟨b.toNat, by omega⟩
  simp only at this
  rw [show ((a.toNat : Int)) = a by omega, show ((b.toNat : Int)) = b by omega] at this
  exact this
def rise (us : List Int) : Prop := (∀ j, j < us.length → -16 ≤ us.getD j 0 ∧ us.getD j 0 ≤ 16) ∧ ∀ i j, i < j → j < us.length → us.getD i 0 < us.getD j 0
theorem climb_rise : ∀ {us : List Int} {u : Int}, climb u us → ∀ i j, i < j → j < us.length → us.getD i 0 < us.getD j 0
  | [], u, _, i, j, _, hj => by simp at hj
  | v :: r, u, h, 0, j + 1, _, hj => by
    obtain ⟨rfl, k, h1, h2, h3⟩ := h
    have := climb_get h3 j (by simpa using hj)
    simp only [List.getD_cons_succ, List.getD_cons_zero]
    omega
  | v :: r, u, h, i + 1, j + 1, hi, hj => by
    obtain ⟨rfl, k, h1, h2, h3⟩ := h
    have := climb_rise h3 i j (by omega) (by simpa using hj)
    simpa only [List.getD_cons_succ] using this
theorem drawn_rise {us : List Int} {u : Int} (hu : -16 ≤ u ∧ u ≤ -8) (hc : climb u us) (hl : us.length ≤ 6) : rise us := by
  refine ⟨fun j hj => ?_, climb_rise hc⟩
  have := climb_get hc j hj
  omega
def SegP (us : List Int) (q : Int) (a b m D : Nat) : Prop :=
  (a + 1 = b ∧ b < us.length ∧ 2 * us.getD a 0 ≤ q ∧ q < 2 * us.getD b 0 ∧ (m : Int) = q - 2 * us.getD a 0 ∧ (D : Int) = us.getD b 0 - us.getD a 0) ∨
  (a = us.length - 1 ∧ b = 0 ∧ q < 2 * us.getD 0 0 ∧ (m : Int) = q - 2 * us.getD a 0 + 64 ∧ (D : Int) = us.getD 0 0 + 32 - us.getD a 0) ∨
  (a = us.length - 1 ∧ b = 0 ∧ 2 * us.getD a 0 ≤ q ∧ (m : Int) = q - 2 * us.getD a 0 ∧ (D : Int) = us.getD 0 0 + 32 - us.getD a 0)
structure GridW (X T : Int → Nat) : Prop where
  td : ∀ {q k : Int}, -32 ≤ q → q ≤ 31 → -47 ≤ k → k ≤ -16 → fop .sub .f32 (T q) (x32 k) = t64 (q - 2 * k)
  ts : ∀ {q k : Int}, -32 ≤ q → q ≤ 31 → -16 ≤ k → k ≤ 16 → fop .sub .f32 (T q) (X k) = t64 (q - 2 * k)
  ss : ∀ {h k : Int}, -16 ≤ h → h ≤ 16 → -16 ≤ k → k ≤ 16 → fop .sub .f32 (X h) (X k) = x32 (h - k)
  sd : ∀ {h k : Int}, -16 ≤ h → h ≤ 16 → -47 ≤ k → k ≤ -16 → fop .sub .f32 (X h) (x32 k) = x32 (h - k)
  su : ∀ {h k : Int}, 16 ≤ h → h ≤ 48 → -16 ≤ k → k ≤ 16 → fop .sub .f32 (x32 h) (X k) = x32 (h - k)
  dn : ∀ {k : Int}, -16 ≤ k → k ≤ 16 → fop .sub .f32 (X k) 1065353216 = x32 (k - 32)
  up : ∀ {k : Int}, -16 ≤ k → k ≤ 16 → fop .add .f32 (X k) 1065353216 = x32 (k + 32)
  gt : ∀ {k q : Int}, -16 ≤ k → k ≤ 16 → -32 ≤ q → q ≤ 31 → fcmp .gtr .f32 (X k) (T q) = decide (q < 2 * k)
theorem grid_x32 : GridW x32 t64 where
  td h1 h2 h3 h4 := gt_sub h1 h2 h3 (by omega)
  ts h1 h2 h3 h4 := gt_sub h1 h2 (by omega) h4
  ss h1 h2 h3 h4 := gx_sub h1 (by omega) (by omega) h4
  sd h1 h2 h3 h4 := gx_sub h1 (by omega) h3 (by omega)
  su h1 h2 h3 h4 := gx_sub (by omega) h2 (by omega) h4
  dn h1 h2 := gx_down h1 h2
  up h1 h2 := gx_up h1 h2
  gt h1 h2 h3 h4 := gx_gtr h1 h2 h3 h4
theorem seg_grid {X T : Int → Nat} (hX : GridW X T) {us : List Int} {q : Int} {j : Nat} (hg : rise us) (hl : 2 ≤ us.length) (hq : -32 ≤ q ∧ q ≤ 31) (hj : j ≤ us.length)
    (ha : ∀ l, l < j → aboveB (us.map X) (T q) l = false) (hb : j < us.length → aboveB (us.map X) (T q) j = true) :
    ∃ m D : Nat, m ≤ 2 * D ∧ 1 ≤ D ∧ D ≤ 32 ∧ fop .sub .f32 (T q) (pairR (us.map X) j).2.2.1 = t64 (m : Int) ∧ fop .sub .f32 (pairR (us.map X) j).2.2.2 (pairR (us.map X) j).2.2.1 = x32 (D : Int) ∧ (pairR (us.map X) j).1 < us.length ∧ (pairR (us.map X) j).2.1 < us.length ∧ SegP us q (pairR (us.map X) j).1 (pairR (us.map X) j).2.1 m D := by
  obtain ⟨hg, hmono⟩ := hg
  have hlow : ∀ l, l < j → l < us.length → 2 * us.getD l 0 ≤ q := by
    intro l h1 h2
    have h3 := ha l h1
    have := hg l h2
    unfold aboveB at h3
    rw [map_getD X us h2, hX.gt (by omega) (by omega) hq.1 hq.2] at h3
    have := of_decide_eq_false h3
    omega
  have hhigh : ∀ (h : j < us.length), q < 2 * us.getD j 0 := by
    intro h
    have h3 := hb h
    have := hg j h
    unfold aboveB at h3
    rw [map_getD X us h, hX.gt (by omega) (by omega) hq.1 hq.2] at h3
    exact of_decide_eq_true h3
  have g0 := hg 0 (by omega)
  have gn := hg (us.length - 1) (by omega)
  have gm := hmono 0 (us.length - 1) (by omega) (by omega)
  by_cases h0 : j = 0
  · subst h0
    have e : pairR (us.map X) 0 = (us.length - 1, 0, x32 (us.getD (us.length - 1) 0 - 32), X (us.getD 0 0)) := by
      unfold pairR
      rw [if_pos rfl, List.length_map, map_getD X us (by omega), map_getD X us (by omega), hX.dn (by omega) (by omega)]
    have hh := hhigh (by omega)
    rw [e]
    refine ⟨(q - 2 * (us.getD (us.length - 1) 0 - 32)).toNat, (us.getD 0 0 - (us.getD (us.length - 1) 0 - 32)).toNat, by omega, by omega, by omega, ?_, ?_, by show us.length - 1 < us.length; omega, by show 0 < us.length; omega, .inr (.inl ⟨rfl, rfl, by omega, by dsimp only; omega, by dsimp only; omega⟩)⟩
    · show fop .sub .f32 (T q) (x32 _) = _
      rw [hX.td hq.1 hq.2 (by omega) (by omega), Int.toNat_of_nonneg (by omega)]
    · show fop .sub .f32 (X _) (x32 _) = _
      rw [hX.sd (by omega) (by omega) (by omega) (by omega), Int.toNat_of_nonneg (by omega)]
  · by_cases hn : j = us.length
    · have e : pairR (us.map X) j = (us.length - 1, 0, X (us.getD (us.length - 1) 0), x32 (us.getD 0 0 + 32)) := by
        unfold pairR
        rw [if_neg h0, List.length_map, if_pos hn, map_getD X us (by omega), map_getD X us (by omega), hX.up (by omega) (by omega)]
      have hh := hlow (us.length - 1) (by omega) (by omega)
      rw [e]
      refine ⟨(q - 2 * us.getD (us.length - 1) 0).toNat, (us.getD 0 0 + 32 - us.getD (us.length - 1) 0).toNat, by omega, by omega, by omega, ?_, ?_, by show us.length - 1 < us.length; omega, by show 0 < us.length; omega, .inr (.inr ⟨rfl, rfl, by dsimp only; omega, by dsimp only; omega, by dsimp only; omega⟩)⟩
      · show fop .sub .f32 (T q) (X _) = _
        rw [hX.ts hq.1 hq.2 (by omega) (by omega), Int.toNat_of_nonneg (by omega)]
      · show fop .sub .f32 (x32 _) (X _) = _
        rw [hX.su (by omega) (by omega) (by omega) (by omega), Int.toNat_of_nonneg (by omega)]
    · have hjl : j < us.length := by omega
      have e : pairR (us.map X) j = (j - 1, j, X (us.getD (j - 1) 0), X (us.getD j 0)) := by
        unfold pairR
        rw [if_neg h0, List.length_map, if_neg hn, map_getD X us (by omega), map_getD X us hjl]
      have hh := hlow (j - 1) (by omega) (by omega)
      have hh2 := hhigh hjl
      have g1 := hg (j - 1) (by omega)
      have g2 := hg j hjl
      have g3 := hmono (j - 1) j (by omega) hjl
      rw [e]
      refine ⟨(q - 2 * us.getD (j - 1) 0).toNat, (us.getD j 0 - us.getD (j - 1) 0).toNat, by omega, by omega, by omega, ?_, ?_, by show j - 1 < us.length; omega, hjl, .inl ⟨by show j - 1 + 1 = j; omega, hjl, by dsimp only; omega, by dsimp only; omega, by dsimp only; omega, by dsimp only; omega⟩⟩
      · show fop .sub .f32 (T q) (X _) = _
        rw [hX.ts hq.1 hq.2 (by omega) (by omega), Int.toNat_of_nonneg (by omega)]
      · show fop .sub .f32 (X _) (X _) = _
        rw [hX.ss (by omega) (by omega) (by omega) (by omega), Int.toNat_of_nonneg (by omega)]
def y32 (u : Int) : Nat := fneg .f32 (x32 (-u))
def s64 (u : Int) : Nat := fneg .f32 (t64 (-u))
theorem y_td (q : Fin 64) (k : Fin 32) : fop .sub .f32 (s64 ((q : Int) - 32)) (x32 ((k : Int) - 47)) = t64 ((q : Int) - 32 - 2 * ((k : Int) - 47)) := by revert q k; decide +kernel
theorem y_ts (q : Fin 64) (k : Fin 33) : fop .sub .f32 (s64 ((q : Int) - 32)) (y32 ((k : Int) - 16)) = t64 ((q : Int) - 32 - 2 * ((k : Int) - 16)) := by revert q k; decide +kernel
theorem y_ss (h : Fin 33) (k : Fin 33) : fop .sub .f32 (y32 ((h : Int) - 16)) (y32 ((k : Int) - 16)) = x32 ((h : Int) - 16 - ((k : Int) - 16)) := by revert h k; decide +kernel
theorem y_sd (h : Fin 33) (k : Fin 32) : fop .sub .f32 (y32 ((h : Int) - 16)) (x32 ((k : Int) - 47)) = x32 ((h : Int) - 16 - ((k : Int) - 47)) := by revert h k; decide +kernel
theorem y_su (h : Fin 33) (k : Fin 33) : fop .sub .f32 (x32 ((h : Int) + 16)) (y32 ((k : Int) - 16)) = x32 ((h : Int) + 16 - ((k : Int) - 16)) := by revert h k; decide +kernel
theorem y_dn (k : Fin 33) : fop .sub .f32 (y32 ((k : Int) - 16)) 1065353216 = x32 ((k : Int) - 16 - 32) := by revert k; decide +kernel
theorem y_up (k : Fin 33) : fop .add .f32 (y32 ((k : Int) - 16)) 1065353216 = x32 ((k : Int) - 16 + 32) := by revert k; decide +kernel
theorem y_gt (k : Fin 33) (q : Fin 64) : fcmp .gtr .f32 (y32 ((k : Int) - 16)) (s64 ((q : Int) - 32)) = decide ((q : Int) - 32 < 2 * ((k : Int) - 16)) := by revert k q; decide +kernel
theorem at_int {P : Int → Prop} {a : Int} {n : Nat} (h : ∀ k : Fin n, P ((k : Int) - a)) {k : Int} (h1 : -a ≤ k) (h2 : k + a < n) : P k := by
  have := h ⟨(k + a).toNat, by omega⟩
  simp only at this
  rw [show (((k + a).toNat : Int)) - a = k by omega] at this
  exact this
theorem at_up {P : Int → Prop} {a : Int} {n : Nat} (h : ∀ k : Fin n, P ((k : Int) + a)) {k : Int} (h1 : a ≤ k) (h2 : k - a < n) : P k := by
  have := h ⟨(k - a).toNat, by omega⟩
  simp only at this
  rw [show (((k - a).toNat : Int)) + a = k by omega] at this
  exact this
theorem grid_y32 : GridW y32 s64 where
  td {q k} h1 h2 h3 h4 := at_int (P := fun q => fop .sub .f32 (s64 q) (x32 k) = t64 (q - 2 * k)) (fun i => at_int (P := fun k => fop .sub .f32 (s64 ((i : Int) - 32)) (x32 k) = t64 ((i : Int) - 32 - 2 * k)) (y_td i) h3 (by omega)) h1 (by omega)
  ts {q k} h1 h2 h3 h4 := at_int (P := fun q => fop .sub .f32 (s64 q) (y32 k) = t64 (q - 2 * k)) (fun i => at_int (P := fun k => fop .sub .f32 (s64 ((i : Int) - 32)) (y32 k) = t64 ((i : Int) - 32 - 2 * k)) (y_ts i) h3 (by omega)) h1 (by omega)
  ss {h k} h1 h2 h3 h4 := at_int (P := fun h => fop .sub .f32 (y32 h) (y32 k) = x32 (h - k)) (fun i => at_int (P := fun k => fop .sub .f32 (y32 ((i : Int) - 16)) (y32 k) = x32 ((i : Int) - 16 - k)) (y_ss i) h3 (by omega)) h1 (by omega)
  sd {h k} h1 h2 h3 h4 := at_int (P := fun h => fop .sub .f32 (y32 h) (x32 k) = x32 (h - k)) (fun i => at_int (P := fun k => fop .sub .f32 (y32 ((i : Int) - 16)) (x32 k) = x32 ((i : Int) - 16 - k)) (y_sd i) h3 (by omega)) h1 (by omega)
  su {h k} h1 h2 h3 h4 := at_up (P := fun h => fop .sub .f32 (x32 h) (y32 k) = x32 (h - k)) (fun i => at_int (P := fun k => fop .sub .f32 (x32 ((i : Int) + 16)) (y32 k) = x32 ((i : Int) + 16 - k)) (y_su i) h3 (by omega)) h1 (by omega)
  dn {k} h1 h2 := at_int (P := fun k => fop .sub .f32 (y32 k) 1065353216 = x32 (k - 32)) y_dn h1 (by omega)
  up {k} h1 h2 := at_int (P := fun k => fop .add .f32 (y32 k) 1065353216 = x32 (k + 32)) y_up h1 (by omega)
  gt {k q} h1 h2 h3 h4 := at_int (P := fun k => fcmp .gtr .f32 (y32 k) (s64 q) = decide (q < 2 * k)) (fun i => at_int (P := fun q => fcmp .gtr .f32 (y32 ((i : Int) - 16)) (s64 q) = decide (q < 2 * ((i : Int) - 16))) (y_gt i) h3 (by omega)) h1 (by omega)
def mir (us : List Int) : List Int := (us.map fun u => -u).reverse
theorem mir_length (us : List Int) : (mir us).length = us.length := by simp [mir]
theorem mir_get {us : List Int} {j : Nat} (h : j < us.length) : (mir us).getD j 0 = - us.getD (us.length - 1 - j) 0 := by
  unfold mir
  rw [List.getD_eq_getElem?_getD, List.getElem?_reverse (by simpa using h), List.length_map, List.getElem?_map, List.getD_eq_getElem?_getD, List.getElem?_eq_getElem (by omega : us.length - 1 - j < us.length)]
  rfl
theorem mir_rise {us : List Int} (h : rise us) : rise (mir us) := by
  refine ⟨fun j hj => ?_, fun i j hi hj => ?_⟩
  · rw [mir_length] at hj
    rw [mir_get hj]
    have := h.1 (us.length - 1 - j) (by omega)
    omega
  · rw [mir_length] at hj
    rw [mir_get hj, mir_get (by omega)]
    have := h.2 (us.length - 1 - j) (us.length - 1 - i) (by omega) (by omega)
    omega
theorem seg_mirror {us : List Int} {q q' : Int} {a b m D a' b' m' D' : Nat} (hr : rise us) (h15 : ∀ j, j < us.length → us.getD j 0 ≤ 15) (hl : 2 ≤ us.length) (hq : -32 ≤ q ∧ q ≤ 31) (hq' : (q = -32 ∧ q' = -32) ∨ (q ≠ -32 ∧ q' = -q))
    (h : SegP us q a b m D) (h' : SegP (mir us) q' a' b' m' D') : (m = 0 ∧ m' = 0 ∧ a < us.length ∧ a' + a + 1 = us.length) ∨ (a' + b + 1 = us.length ∧ b' + a + 1 = us.length ∧ D' = D ∧ m' + m = 2 * D) := by
  have hlt : ∀ i j, i < us.length → j < us.length → us.getD i 0 < us.getD j 0 → i < j := by
    intro i j hi hj h
    rcases Nat.lt_trichotomy i j with g | g | g
    · exact g
    · subst g; omega
    · have := hr.2 j i g hi; omega
  have hle : ∀ i j, i < us.length → j < us.length → us.getD i 0 ≤ us.getD j 0 → i ≤ j := by
    intro i j hi hj h
    rcases Nat.lt_or_ge j i with g | g
    · have := hr.2 j i g hi; omega
    · exact g
  unfold SegP at h'
  rw [mir_length] at h'
  have f0 := hr.1 0 (by omega)
  have fn := hr.1 (us.length - 1) (by omega)
  have f15 := h15 0 (by omega)
  have fm := hr.2 0 (us.length - 1) (by omega) (by omega)
  have gz : (mir us).getD 0 0 = - us.getD (us.length - 1) 0 := by rw [mir_get (by omega)]; rfl
  have gl : (mir us).getD (us.length - 1) 0 = - us.getD 0 0 := by rw [mir_get (by omega), show us.length - 1 - (us.length - 1) = 0 by omega]
  rcases h with ⟨e1, e2, e3, e4, e5, e6⟩ | ⟨rfl, rfl, e3, e5, e6⟩ | ⟨rfl, rfl, e3, e5, e6⟩
  · have ga := hr.1 a (by omega)
    rcases h' with ⟨d1, d2, d3, d4, d5, d6⟩ | ⟨rfl, rfl, d3, d5, d6⟩ | ⟨rfl, rfl, d3, d5, d6⟩
    · rw [mir_get (j := a') (by omega)] at d3 d5 d6
      rw [mir_get (j := b') d2] at d4 d6
      have gc := h15 (us.length - 1 - a') (by omega)
      rcases hq' with ⟨rfl, rfl⟩ | ⟨hq0, rfl⟩
      · omega
      · have i1 := hle a (us.length - 1 - a') (by omega) (by omega) (by omega)
        have i2 := hlt (us.length - 1 - b') b (by omega) (by omega) (by omega)
        rcases Nat.eq_or_lt_of_le i1 with i3 | i3
        · rw [← i3] at d3 d5
          left; omega
        · have i4 : us.length - 1 - a' = b := by omega
          have i5 : us.length - 1 - b' = a := by omega
          rw [i4] at d5 d6
          rw [i5] at d6
          right; omega
    · rw [gz] at d3
      rw [gl] at d5
      rcases hq' with ⟨rfl, rfl⟩ | ⟨hq0, rfl⟩
      · have := hle a 0 (by omega) (by omega) (by omega)
        have : a = 0 := by omega
        subst this
        left; omega
      · have := hlt (us.length - 1) b (by omega) (by omega) (by omega)
        omega
    · rw [gl] at d3 d5
      rcases hq' with ⟨rfl, rfl⟩ | ⟨hq0, rfl⟩
      · omega
      · have := hle a 0 (by omega) (by omega) (by omega)
        have : a = 0 := by omega
        subst this
        left; omega
  · rcases h' with ⟨d1, d2, d3, d4, d5, d6⟩ | ⟨rfl, rfl, d3, d5, d6⟩ | ⟨rfl, rfl, d3, d5, d6⟩
    · rw [mir_get (j := a') (by omega)] at d3
      rw [mir_get (j := b') d2] at d4
      have gc := h15 (us.length - 1 - a') (by omega)
      rcases hq' with ⟨rfl, rfl⟩ | ⟨hq0, rfl⟩
      · omega
      · have := hlt (us.length - 1 - b') 0 (by omega) (by omega) (by omega)
        omega
    · rw [gz] at d3 d6
      rw [gl] at d5 d6
      rcases hq' with ⟨rfl, rfl⟩ | ⟨hq0, rfl⟩
      · right; omega
      · omega
    · rw [gl] at d3 d5 d6
      rw [gz] at d6
      rcases hq' with ⟨rfl, rfl⟩ | ⟨hq0, rfl⟩
      · omega
      · right; omega
  · rcases h' with ⟨d1, d2, d3, d4, d5, d6⟩ | ⟨rfl, rfl, d3, d5, d6⟩ | ⟨rfl, rfl, d3, d5, d6⟩
    · rw [mir_get (j := a') (by omega)] at d3 d5
      have gc := h15 (us.length - 1 - a') (by omega)
      rcases hq' with ⟨rfl, rfl⟩ | ⟨hq0, rfl⟩
      · omega
      · have i1 := hle (us.length - 1) (us.length - 1 - a') (by omega) (by omega) (by omega)
        have : a' = 0 := by omega
        subst this
        have e : us.length - 1 - 0 = us.length - 1 := rfl
        rw [e] at d3 d5
        left; omega
    · rw [gz] at d3 d6
      rw [gl] at d5 d6
      rcases hq' with ⟨rfl, rfl⟩ | ⟨hq0, rfl⟩
      · omega
      · right; omega
    · rw [gl] at d3
      rcases hq' with ⟨rfl, rfl⟩ | ⟨hq0, rfl⟩ <;> omega
def fracW (m D : Nat) : Nat := fop .quo .f32 (t64 (m : Int)) (x32 (D : Int))
theorem frac_zero (D : Fin 33) : 1 ≤ D.val → fracW 0 D.val = 0 := by revert D; decide +kernel
theorem frac_pair (D : Fin 33) (m : Fin 65) : 1 ≤ D.val → m.val ≤ 2 * D.val → finW .f32 (fracW m.val D.val) = true ∧ (vl .f32 (fracW m.val D.val)).natAbs ≤ 2 ^ 149 ∧ 4194304 * (vl .f32 (fracW m.val D.val) + vl .f32 (fracW (2 * D.val - m.val) D.val) - ((2 ^ 149 : Nat) : Int)).natAbs ≤ 2 ^ 149 := by revert D m; decide +kernel
theorem rnd_self {k : FloatKind} {a : Nat} (h : finW k a = true) : rnd k.format (mg k a) (lp k) = rg k.format a :=
  rnd_exact k.format (u := 0) (v := 0) (Nat.le_of_lt (finW_lt h)) rfl rfl
theorem mix_zero {a c : Nat} (ha : finW .f32 a = true) (hc : finW .f32 c = true) : finW .f32 (fop .add .f32 a (fop .mul .f32 0 c)) = true ∧ vl .f32 (fop .add .f32 a (fop .mul .f32 0 c)) = vl .f32 a := by
  have h0 : finW .f32 0 = true := by decide +kernel
  have e0 : mg .f32 0 = 0 := by decide +kernel
  have hm : finW .f32 (fop .mul .f32 0 c) = true ∧ vl .f32 (fop .mul .f32 0 c) = 0 := by
    rw [mul_word h0 hc, e0, Nat.zero_mul, rnd_zero]
    refine ⟨?_, ?_⟩
    · unfold finW; rw [rg_word _ _ (Nat.zero_le _)]; decide
    · unfold vl
      rw [mg_word _ _ (Nat.zero_le _), rungV_zero]
      cases nn .f32 (FloatKind.f32.format.word (nn .f32 0 ^^ nn .f32 c) 0) <;> rfl
  obtain ⟨m1, m2⟩ := hm
  generalize fop .mul .f32 0 c = p at *
  rw [add_word ha m1, m2, Int.add_zero]
  have hr : rnd FloatKind.f32.format (vl .f32 a).natAbs (lp .f32) = rg FloatKind.f32.format a := by
    have : (vl .f32 a).natAbs = mg .f32 a := sg_abs _ _
    rw [this, rnd_self ha]
  rw [hr]
  have hi : rg FloatKind.f32.format a ≤ FloatKind.f32.format.infRung := Nat.le_of_lt (finW_lt ha)
  refine ⟨?_, ?_⟩
  · unfold finW; rw [rg_word _ _ hi]; exact ha
  · show sg (nn .f32 (FloatKind.f32.format.word _ _)) (mg .f32 (FloatKind.f32.format.word _ _)) = _
    rw [nn_word _ _ hi, mg_word _ _ hi]
    unfold sgn0
    by_cases hz : vl .f32 a = 0
    · have hz2 : rungV FloatKind.f32.format (rg FloatKind.f32.format a) = 0 := by
        have : (vl .f32 a).natAbs = mg .f32 a := sg_abs _ _
        rw [hz] at this
        exact this.symm
      rw [hz2, hz]
      cases (if (0 : Int) = 0 then nn .f32 a && nn .f32 p else decide ((0 : Int) < 0)) <;> rfl
    · rw [if_neg hz]
      unfold vl at hz ⊢
      have hp : mg .f32 a ≠ 0 := by
        intro h
        rw [h] at hz
        cases hn : nn .f32 a <;> rw [hn] at hz <;> exact hz rfl
      show sg _ (mg .f32 a) = _
      cases hn : nn .f32 a
      · simp only [sg, Bool.false_eq_true, if_false]
        rw [decide_eq_false (by omega)]
        rfl
      · simp only [sg, if_true]
        rw [decide_eq_true (by omega)]
        rfl
theorem mirror_mixed {us : List Int} {q q' : Int} {a b m D a' b' m' D' : Nat} {xs ys : List Nat} (hr : rise us) (h15 : ∀ j, j < us.length → us.getD j 0 ≤ 15) (hl : 2 ≤ us.length) (hq : -32 ≤ q ∧ q ≤ 31) (hq' : (q = -32 ∧ q' = -32) ∨ (q ≠ -32 ∧ q' = -q))
    (h : SegP us q a b m D) (h' : SegP (mir us) q' a' b' m' D') (hm : m ≤ 2 * D) (hD : 1 ≤ D) (hD2 : D ≤ 32) (hD' : 1 ≤ D') (hD2' : D' ≤ 32) (hal : a < us.length) (hbl : b < us.length) (hal' : a' < us.length) (hbl' : b' < us.length)
    (hys : ∀ j, j < us.length → ys.getD j 0 = fneg .f32 (xs.getD (us.length - 1 - j) 0))
    (hbd : ∀ j, j < us.length → (vl .f32 (xs.getD j 0)).natAbs ≤ 2097152 * 2 ^ 130)
    (hsub : ∀ a b, a < us.length → b < us.length → finW .f32 (xs.getD a 0) = true ∧ finW .f32 (fop .sub .f32 (xs.getD b 0) (xs.getD a 0)) = true ∧ vl .f32 (fop .sub .f32 (xs.getD b 0) (xs.getD a 0)) = vl .f32 (xs.getD b 0) - vl .f32 (xs.getD a 0)) :
    finW .f32 (mixed (xs.getD a 0) (xs.getD b 0) (fracW m D)) = true ∧ finW .f32 (mixed (ys.getD a' 0) (ys.getD b' 0) (fracW m' D')) = true ∧
    (vl .f32 (mixed (ys.getD a' 0) (ys.getD b' 0) (fracW m' D')) + vl .f32 (mixed (xs.getD a 0) (xs.getD b 0) (fracW m D))).natAbs ≤ 7 * 2 ^ 130 := by
  obtain ⟨s1, s2, s3⟩ := hsub a b hal hbl
  obtain ⟨t1, _, _⟩ := hsub b a hbl hal
  unfold mixed
  rcases seg_mirror hr h15 hl hq hq' h h' with ⟨rfl, rfl, _, e⟩ | ⟨e1, e2, rfl, e4⟩
  · rw [frac_zero ⟨D, by omega⟩ hD, frac_zero ⟨D', by omega⟩ hD']
    have ga : ys.getD a' 0 = fneg .f32 (xs.getD a 0) := by rw [hys a' hal', show us.length - 1 - a' = a by omega]
    have gb := hys b' hbl'
    obtain ⟨u1, u2, u3⟩ := hsub a (us.length - 1 - b') hal (by omega)
    obtain ⟨u4, u5, u6⟩ := hsub (us.length - 1 - b') a (by omega) hal
    obtain ⟨na, va⟩ := neg_vl u1
    obtain ⟨nb, vb⟩ := neg_vl u4
    obtain ⟨w1, w2⟩ := sub_same nb na u1 u4 (by rw [va, vb]; omega)
    rw [ga, gb]
    obtain ⟨p1, p2⟩ := mix_zero s1 s2
    obtain ⟨p3, p4⟩ := mix_zero na (w1.trans u5)
    refine ⟨p1, p3, ?_⟩
    rw [p2, p4, va]
    have : (-vl .f32 (xs.getD a 0) + vl .f32 (xs.getD a 0)) = 0 := by omega
    rw [this]
    exact Nat.zero_le _
  · have ga : ys.getD a' 0 = fneg .f32 (xs.getD b 0) := by rw [hys a' hal', show us.length - 1 - a' = b by omega]
    have gb : ys.getD b' 0 = fneg .f32 (xs.getD a 0) := by rw [hys b' hbl', show us.length - 1 - b' = a by omega]
    rw [ga, gb]
    obtain ⟨f1, f2, f3⟩ := frac_pair ⟨D', by omega⟩ ⟨m, by omega⟩ hD hm
    obtain ⟨g1, g2, _⟩ := frac_pair ⟨D', by omega⟩ ⟨2 * D' - m, by omega⟩ hD (by show 2 * D' - m ≤ 2 * D'; omega)
    simp only at f1 f2 f3 g1 g2
    have em : m' = 2 * D' - m := by omega
    rw [em]
    exact mirror_near rfl rfl s1 t1 (hbd a hal) (hbd b hbl) s2 s3 f1 g1 f2 g2 f3
theorem rg_of_mg {k : FloatKind} {x r : Nat} (h : mg k x ≤ rungV k.format r) : rg k.format x ≤ r := by
  rcases Nat.lt_or_ge r (rg k.format x) with g | g
  · have := rungV_lt k.format g
    unfold mg at h
    omega
  · exact g
theorem twice_mixed {a b a' b' f : Nat} (h1 : two .f32 a a') (hc : two .f32 (fop .sub .f32 b a) (fop .sub .f32 b' a')) (hf : rg FloatKind.f32.format f ≤ 1065353216) (hn : nn .f32 f = false)
    (hF : mg .f32 f = 0 ∨ 2 ^ 142 ≤ mg .f32 f) (hC : mg .f32 (fop .sub .f32 b a) = 0 ∨ 2 ^ 144 ≤ mg .f32 (fop .sub .f32 b a)) (ba : mg .f32 a ≤ 2 ^ 151) (bc : mg .f32 (fop .sub .f32 b a) ≤ 2 ^ 152) :
    two .f32 (mixed a b f) (mixed a' b' f) := by
  unfold mixed
  generalize fop .sub .f32 b a = c at *
  generalize fop .sub .f32 b' a' = c' at *
  have hff : finW .f32 f = true := finW_of hf (by decide)
  obtain ⟨p1, p2, p3⟩ := mul_unit hf hn hc.1
  have e152 : (2 : Nat) ^ 152 = rungV FloatKind.f32.format 1090519040 := by decide +kernel
  have r1 : rg FloatKind.f32.format (fop .mul .f32 f c) ≤ 1090519040 := rg_of_mg (by rw [← e152]; exact Nat.le_trans p3 bc)
  have hlim : FloatKind.f32.format.binade = 8388608 := by decide
  have hinf : FloatKind.f32.format.infRung = 2139095040 := by decide
  have tm : two .f32 (fop .mul .f32 f c) (fop .mul .f32 f c') := by
    refine two_mul (s := 149) hff hc (by decide +kernel) ?_ (by rw [hlim, hinf]; omega)
    rcases hF with hF | hF
    · left; rw [hF, Nat.zero_mul]
    · rcases hC with hC | hC
      · left; rw [hC, Nat.mul_zero]
      · right
        exact Nat.le_trans (by decide +kernel) (Nat.mul_le_mul hF hC)
  refine two_add h1 tm ?_
  have e151 : (2 : Nat) ^ 151 = rungV FloatKind.f32.format 1082130432 := by decide +kernel
  have r2 : rg FloatKind.f32.format a ≤ 1082130432 := rg_of_mg (by rw [← e151]; exact ba)
  have r3 : rg FloatKind.f32.format (fop .add .f32 a (fop .mul .f32 f c)) ≤ 1098907648 := add_rg (c := 1098907648) r2 r1 (by decide) (by decide) (by decide +kernel)
  rw [hlim, hinf]; omega
theorem dbl_eq {v w : Nat} (h : two .f32 v w) : fcmp .neq .f32 w (fop .mul .f32 1073741824 v) = false := by
  obtain ⟨f1, f2, n1, m1⟩ := h
  have h2 : finW .f32 1073741824 = true := by decide +kernel
  have e2 : mg .f32 1073741824 = 2 ^ 150 := by decide +kernel
  have n2 : nn .f32 1073741824 = false := by decide +kernel
  have hw := finW_lt f2
  have hr : rnd FloatKind.f32.format (mg .f32 1073741824 * mg .f32 v) (lp .f32 + lp .f32) = rg FloatKind.f32.format w := by
    refine rnd_exact FloatKind.f32.format (u := 0) (v := 149) (Nat.le_of_lt hw) (by decide +kernel) ?_
    rw [e2, Nat.pow_zero, Nat.mul_one]
    show 2 ^ 150 * mg .f32 v = mg .f32 w * 2 ^ 149
    rw [m1, show (2 : Nat) ^ 150 = 2 * 2 ^ 149 from rfl, Nat.mul_assoc 2 (2 ^ 149), Nat.mul_assoc 2 (mg .f32 v), Nat.mul_comm (2 ^ 149)]
  have e : fop .mul .f32 1073741824 v = FloatKind.f32.format.word (nn .f32 v) (rg FloatKind.f32.format w) := by
    rw [mul_word h2 f1, hr, n2, Bool.false_xor]
  have s : srung FloatKind.f32.format (fop .mul .f32 1073741824 v) = srung FloatKind.f32.format w := by
    rw [e, srung_word _ _ (Nat.le_of_lt hw), srung_vl w, n1]
  have hf : finW .f32 (fop .mul .f32 1073741824 v) = true := by
    rw [e]; unfold finW; rw [rg_word _ _ (Nat.le_of_lt hw)]; exact decide_eq_true hw
  rw [(fcmp_num .f32 (finW_nan f2) (finW_nan hf)).2.1, s]
  simp
theorem l8_two (a b : Fin 33) : (finW .f32 (l8 ((a : Int) - 16)) = true ∧ finW .f32 (fop .mul .f32 (l8 ((a : Int) - 16)) 1073741824) = true ∧ nn .f32 (fop .mul .f32 (l8 ((a : Int) - 16)) 1073741824) = nn .f32 (l8 ((a : Int) - 16)) ∧ mg .f32 (fop .mul .f32 (l8 ((a : Int) - 16)) 1073741824) = 2 * mg .f32 (l8 ((a : Int) - 16))) ∧
    (finW .f32 (fop .sub .f32 (l8 ((b : Int) - 16)) (l8 ((a : Int) - 16))) = true ∧ finW .f32 (fop .sub .f32 (fop .mul .f32 (l8 ((b : Int) - 16)) 1073741824) (fop .mul .f32 (l8 ((a : Int) - 16)) 1073741824)) = true ∧
      nn .f32 (fop .sub .f32 (fop .mul .f32 (l8 ((b : Int) - 16)) 1073741824) (fop .mul .f32 (l8 ((a : Int) - 16)) 1073741824)) = nn .f32 (fop .sub .f32 (l8 ((b : Int) - 16)) (l8 ((a : Int) - 16))) ∧
      mg .f32 (fop .sub .f32 (fop .mul .f32 (l8 ((b : Int) - 16)) 1073741824) (fop .mul .f32 (l8 ((a : Int) - 16)) 1073741824)) = 2 * mg .f32 (fop .sub .f32 (l8 ((b : Int) - 16)) (l8 ((a : Int) - 16)))) ∧
    (mg .f32 (fop .sub .f32 (l8 ((b : Int) - 16)) (l8 ((a : Int) - 16))) = 0 ∨ 2 ^ 144 ≤ mg .f32 (fop .sub .f32 (l8 ((b : Int) - 16)) (l8 ((a : Int) - 16)))) ∧ mg .f32 (l8 ((a : Int) - 16)) ≤ 2 ^ 151 ∧ mg .f32 (fop .sub .f32 (l8 ((b : Int) - 16)) (l8 ((a : Int) - 16))) ≤ 2 ^ 152 := by revert a b; decide +kernel
theorem frac_big (D : Fin 33) (m : Fin 65) : 1 ≤ D.val → m.val ≤ 2 * D.val → mg .f32 (fracW m.val D.val) = 0 ∨ 2 ^ 142 ≤ mg .f32 (fracW m.val D.val) := by revert D m; decide +kernel
theorem twice_grid {x y : Int} {m D : Nat} (hx : -16 ≤ x ∧ x ≤ 16) (hy : -16 ≤ y ∧ y ≤ 16) (h1 : m ≤ 2 * D) (h2 : 1 ≤ D) (h3 : D ≤ 32) :
    two .f32 (mixed (l8 x) (l8 y) (fracW m D)) (mixed (fop .mul .f32 (l8 x) 1073741824) (fop .mul .f32 (l8 y) 1073741824) (fracW m D)) := by
  have g := l8_two ⟨(x + 16).toNat, by omega⟩ ⟨(y + 16).toNat, by omega⟩
  simp only at g
  rw [show (((x + 16).toNat : Int)) - 16 = x by omega, show (((y + 16).toNat : Int)) - 16 = y by omega] at g
  obtain ⟨t1, t2, t3, t4, t5⟩ := g
  obtain ⟨q1, q2⟩ := frac_unit h1 h2 h3
  exact twice_mixed t1 t2 q2 q1 (frac_big ⟨D, by omega⟩ ⟨m, by omega⟩ h2 h1) t3 t4 t5
def wr (q : Int) : Int := (q + 32) % 64 - 32
def wrN (q : Int) : Int := if wr q = -32 then -32 else - wr q
theorem wrap_q (q : Fin 256) : finB (t64 ((q : Int) - 128)) = true ∧ wrapV (t64 ((q : Int) - 128)) = t64 (wr ((q : Int) - 128)) := by revert q; decide +kernel
theorem wrap_q2 (q : Fin 256) : finB (fop .add .f32 (t64 ((q : Int) - 128)) 1073741824) = true ∧ wrapV (fop .add .f32 (t64 ((q : Int) - 128)) 1073741824) = t64 (wr ((q : Int) - 128)) := by revert q; decide +kernel
theorem wrap_qn (q : Fin 256) : finB (fneg .f32 (t64 ((q : Int) - 128))) = true ∧ wrapV (fneg .f32 (t64 ((q : Int) - 128))) = s64 (wrN ((q : Int) - 128)) ∨ finB (fneg .f32 (t64 ((q : Int) - 128))) = true ∧ wrapV (fneg .f32 (t64 ((q : Int) - 128))) = t64 (wrN ((q : Int) - 128)) := by revert q; decide +kernel
theorem turned_q (q : Fin 64) : fcmp .lss .f32 (t64 ((q : Int) - 32)) 3204448256 = false ∧ fcmp .geq .f32 (t64 ((q : Int) - 32)) 1056964608 = false := by revert q; decide +kernel
theorem same_t (q : Fin 64) : q.val ≠ 32 → t64 ((q : Int) - 32) = s64 ((q : Int) - 32) := by revert q; decide +kernel
theorem same_ts {q : Int} (h1 : -32 ≤ q) (h2 : q ≤ 31) (h : q ≠ 0) : t64 q = s64 q := by
  have := same_t ⟨(q + 32).toNat, by omega⟩ (by show (q + 32).toNat ≠ 32; omega)
  simp only at this
  rw [show (((q + 32).toNat : Int)) - 32 = q by omega] at this
  exact this
theorem y0_td (k : Fin 32) : fop .sub .f32 (t64 0) (x32 ((k : Int) - 47)) = t64 (0 - 2 * ((k : Int) - 47)) := by revert k; decide +kernel
theorem y0_ts (k : Fin 33) : fop .sub .f32 (t64 0) (y32 ((k : Int) - 16)) = t64 (0 - 2 * ((k : Int) - 16)) := by revert k; decide +kernel
theorem y0_gt (k : Fin 33) : fcmp .gtr .f32 (y32 ((k : Int) - 16)) (t64 0) = decide ((0 : Int) < 2 * ((k : Int) - 16)) := by revert k; decide +kernel
theorem grid_y32t : GridW y32 t64 where
  td {q k} h1 h2 h3 h4 := by
    by_cases h : q = 0
    · subst h
      exact at_int (P := fun k => fop .sub .f32 (t64 0) (x32 k) = t64 (0 - 2 * k)) y0_td h3 (by omega)
    · have := grid_y32.td h1 h2 h3 h4
      rw [← same_ts h1 h2 h] at this
      exact this
  ts {q k} h1 h2 h3 h4 := by
    by_cases h : q = 0
    · subst h
      exact at_int (P := fun k => fop .sub .f32 (t64 0) (y32 k) = t64 (0 - 2 * k)) y0_ts h3 (by omega)
    · have := grid_y32.ts h1 h2 h3 h4
      rw [← same_ts h1 h2 h] at this
      exact this
  ss := grid_y32.ss
  sd := grid_y32.sd
  su := grid_y32.su
  dn := grid_y32.dn
  up := grid_y32.up
  gt {k q} h1 h2 h3 h4 := by
    by_cases h : q = 0
    · subst h
      exact at_int (P := fun k => fcmp .gtr .f32 (y32 k) (t64 0) = decide ((0 : Int) < 2 * k)) y0_gt h1 (by omega)
    · have := grid_y32.gt h1 h2 h3 h4
      rw [← same_ts h3 h4 h] at this
      exact this
theorem knot_q (u : Fin 32) : finB (x32 ((u : Int) - 16)) = true ∧ wrapV (x32 ((u : Int) - 16)) = t64 (2 * ((u : Int) - 16)) := by revert u; decide +kernel
theorem seg_knot {us : List Int} {i a b m D : Nat} (hr : rise us) (hi : i < us.length) (h : SegP us (2 * us.getD i 0) a b m D) : a = i ∧ m = 0 := by
  have hlt : ∀ i j, i < us.length → j < us.length → us.getD i 0 < us.getD j 0 → i < j := by
    intro i j hi hj h
    rcases Nat.lt_trichotomy i j with g | g | g
    · exact g
    · subst g; omega
    · have := hr.2 j i g hi; omega
  have hle : ∀ i j, i < us.length → j < us.length → us.getD i 0 ≤ us.getD j 0 → i ≤ j := by
    intro i j hi hj h
    rcases Nat.lt_or_ge j i with g | g
    · have := hr.2 j i g hi; omega
    · exact g
  rcases h with ⟨e1, e2, e3, e4, e5, e6⟩ | ⟨rfl, rfl, e3, e5, e6⟩ | ⟨rfl, rfl, e3, e5, e6⟩
  · have i1 := hle a i (by omega) hi (by omega)
    have i2 := hlt i b hi e2 (by omega)
    have i3 : a = i := by omega
    subst i3
    exact ⟨rfl, by omega⟩
  · have := hlt i 0 hi (by omega) (by omega)
    omega
  · have i1 := hle (us.length - 1) i (by omega) hi (by omega)
    have i3 : us.length - 1 = i := by omega
    rw [i3] at e5
    exact ⟨i3, by omega⟩
def findA : List Nat → Nat → Nat
  | [], _ => 0
  | a :: r, t => if fcmp .gtr .f32 a t = true then 0 else findA r t + 1
theorem findA_eq : ∀ (as : List Nat) (t j : Nat), j ≤ as.length → (∀ l, l < j → aboveB as t l = false) → (j < as.length → aboveB as t j = true) → findA as t = j
  | [], t, j, h, _, _ => by
    simp only [List.length_nil] at h
    unfold findA; omega
  | a :: r, t, 0, _, _, h => by
    have h0 := h (by simp)
    unfold aboveB at h0
    simp only [List.getD_cons_zero] at h0
    unfold findA
    rw [if_pos h0]
  | a :: r, t, j + 1, h1, h2, h3 => by
    have h0 := h2 0 (by omega)
    unfold aboveB at h0
    simp only [List.getD_cons_zero] at h0
    unfold findA
    rw [if_neg (by rw [h0]; decide)]
    rw [findA_eq r t j (by simpa using h1) (fun l hl => by have := h2 (l + 1) (by omega); unfold aboveB at this ⊢; simpa using this) (fun hj => by have := h3 (by simpa using hj); unfold aboveB at this ⊢; simpa using this)]
def atW (as xs : List Nat) (t : Nat) : Nat :=
  mixed (xs.getD (pairR as (findA as t)).1 0) (xs.getD (pairR as (findA as t)).2.1 0) (if fcmp .neq .f32 (pairR as (findA as t)).2.2.1 (pairR as (findA as t)).2.2.2 = true then fop .quo .f32 (fop .sub .f32 t (pairR as (findA as t)).2.2.1) (fop .sub .f32 (pairR as (findA as t)).2.2.2 (pairR as (findA as t)).2.2.1) else 0)
theorem at_any {as ls ds xs : List Nat} {x : Nat} (hv : validProfB as ls ds = true) (hx : finB x = true) (hl : xs.length = as.length) :
    z68 as.length as ls.length ls ds.length ds xs.length xs x = some (atW as xs (wrapV x)) := by
  obtain ⟨j, hj, ha, hb, h1⟩ := pair_eq2 hv hx
  obtain ⟨f1, f2, f3, f4⟩ := knots_fin hv hj
  unfold atW
  rw [findA_eq as (wrapV x) j hj ha hb]
  generalize pairR as j = P at *
  obtain ⟨a, b, low, high⟩ := P
  simp only at h1 f1 f2 f3 f4 ⊢
  obtain ⟨i0, i1, i2, i3, i4, i5⟩ := zi5 h1
  have oa : okIx (Int.ofNat a) xs.length = true := okIx_t (by omega)
  have ob : okIx (Int.ofNat b) xs.length = true := okIx_t (by omega)
  unfold z68 z67
  have m := fun p q s => zgo (show z96 p q s = some (mixed p q s) from rfl)
  simp only [pF_all, i0, i1, i2, i3, i4, i5, oa, ob, ix1, gF, grd_true, (m _ _ _).1, (m _ _ _).2]
  cases fcmp .neq .f32 low high <;> rfl
theorem LiftAt_any {as ls ds : List Nat} {x : Nat} (hv : validProfB as ls ds = true) (hx : finB x = true) (hf : finB (atW as ls (wrapV x)) = true) :
    z7w as.length as ls.length ls ds.length ds x = some (atW as ls (wrapV x), true) := by
  obtain ⟨c1, c2, c3, c4⟩ := validProfB_len hv
  obtain ⟨p1, q1⟩ := z26 (impl_ValidProfile_eq (as := as) (ls := ls) (ds := ds) (by omega) (by omega))
  obtain ⟨p2, q2⟩ := z5f (impl_IsFinite_eq x)
  obtain ⟨p3, q3⟩ := zg0 (at_any hv hx c3)
  obtain ⟨p4, q4, r4⟩ := zi9 (impl_checked_eq (atW as ls (wrapV x)))
  have hk : checkV (atW as ls (wrapV x)) = atW as ls (wrapV x) := by unfold checkV; rw [if_pos hf]
  rw [hk] at q4
  rw [hf] at r4
  unfold z7w z9s
  simp only [pF_all, p1, q1, p2, q2, hv, hx, p3, q3, p4, q4, r4, grd_true, bnot_true, br_false, Bool.and_self, if_true]
theorem DragAt_any {as ls ds : List Nat} {x : Nat} (hv : validProfB as ls ds = true) (hx : finB x = true) (hf : finB (atW as ds (wrapV x)) = true) :
    z7s as.length as ls.length ls ds.length ds x = some (atW as ds (wrapV x), true) := by
  obtain ⟨c1, c2, c3, c4⟩ := validProfB_len hv
  obtain ⟨p1, q1⟩ := z26 (impl_ValidProfile_eq (as := as) (ls := ls) (ds := ds) (by omega) (by omega))
  obtain ⟨p2, q2⟩ := z5f (impl_IsFinite_eq x)
  obtain ⟨p3, q3⟩ := zg0 (at_any hv hx c4)
  obtain ⟨p4, q4, r4⟩ := zi9 (impl_checked_eq (atW as ds (wrapV x)))
  have hk : checkV (atW as ds (wrapV x)) = atW as ds (wrapV x) := by unfold checkV; rw [if_pos hf]
  rw [hk] at q4
  rw [hf] at r4
  unfold z7s z9p
  simp only [pF_all, p1, q1, p2, q2, hv, hx, p3, q3, p4, q4, r4, grd_true, bnot_true, br_false, Bool.and_self, if_true]
theorem getD_map {α β : Type} {f : α → β} {xs : List α} {j : Nat} {d : α} {e : β} (h : j < xs.length) : (xs.map f).getD j e = f (xs.getD j d) := by
  simp [List.getD_eq_getElem?_getD, h]
theorem getD_rev {α : Type} {xs : List α} {j : Nat} {d : α} (h : j < xs.length) : xs.reverse.getD j d = xs.getD (xs.length - 1 - j) d := by
  rw [List.getD_eq_getElem?_getD, List.getElem?_reverse h, List.getD_eq_getElem?_getD]
def mirA (xs : List Nat) : List Nat := (xs.map (fneg .f32)).reverse
def dblL (xs : List Nat) : List Nat := xs.map fun x => fop .mul .f32 x 1073741824
theorem mirA_length (xs : List Nat) : (mirA xs).length = xs.length := by simp [mirA]
theorem dblL_length (xs : List Nat) : (dblL xs).length = xs.length := by simp [dblL]
theorem mirA_get {xs : List Nat} {j : Nat} (h : j < xs.length) : (mirA xs).getD j 0 = fneg .f32 (xs.getD (xs.length - 1 - j) 0) := by
  unfold mirA
  rw [getD_rev (by simpa using h), List.length_map, getD_map (by omega)]
theorem dblL_get {xs : List Nat} {j : Nat} (h : j < xs.length) : (dblL xs).getD j 0 = fop .mul .f32 (xs.getD j 0) 1073741824 := by
  unfold dblL
  rw [getD_map h]
theorem finB_neg {x : Nat} (h : finB x = true) : finB (fneg .f32 x) = true := by
  rw [finB_eq] at h ⊢
  exact (neg_vl h).1
theorem scaled_valid {as ls ds ls' ds' : List Nat} (hv : validProfB as ls ds = true) (l1 : ls'.length = as.length) (l2 : ds'.length = as.length) (h1 : ∀ j, j < as.length → finB (ls'.getD j 0) = true) (h2 : ∀ j, j < as.length → leastB (ds'.getD j 0) = true) :
    validProfB as ls' ds' = true := by
  have hk := prof_knots hv
  obtain ⟨c1, c2, c3, c4⟩ := validProfB_len hv
  unfold validProfB
  simp only [Bool.and_eq_true, decide_eq_true_eq]
  refine ⟨c1, c2, l1, l2, range_all.2 fun j hj => ?_⟩
  unfold profB
  rw [hk j hj, h1 j hj, h2 j hj]; rfl
theorem prof_num {as ls ds : List Nat} (h : validProfB as ls ds = true) {j : Nat} (hj : j < as.length) : finB (as.getD j 0) = true ∧ finB (ls.getD j 0) = true ∧ leastB (ds.getD j 0) = true := by
  have hk := prof_knots h j hj
  unfold validProfB at h
  simp only [Bool.and_eq_true] at h
  have := range_all.1 h.2.2.2.2 j hj
  unfold profB at this
  simp only [Bool.and_eq_true] at this
  refine ⟨?_, this.2⟩
  rw [finB_eq]
  exact finW_of (knot_rg hk) (by decide +kernel)
theorem mirror_valid {as ls ds : List Nat} (hv : validProfB as ls ds = true) : validProfB (mirA as) (mirA ls) ds.reverse = true := by
  obtain ⟨c1, c2, c3, c4⟩ := validProfB_len hv
  have hk := prof_knots hv
  unfold validProfB
  simp only [Bool.and_eq_true, decide_eq_true_eq, mirA_length, List.length_reverse]
  refine ⟨c1, c2, c3, c4, range_all.2 fun j hj => ?_⟩
  obtain ⟨f1, f2, f3⟩ := prof_num hv (show as.length - 1 - j < as.length by omega)
  unfold profB
  rw [mirA_get (xs := ls) (by omega), c3, finB_neg f2, getD_rev (by omega), c4, f3]
  simp only [Bool.and_self, Bool.and_true]
  have hA := hk (as.length - 1 - j) (by omega)
  rw [finB_eq] at f1
  obtain ⟨n1, n2⟩ := neg_vl f1
  have w1 : finW .f32 3204448256 = true := by decide +kernel
  have w2 : finW .f32 1056964608 = true := by decide +kernel
  have w3 : vl .f32 3204448256 = - vl .f32 1056964608 := by decide +kernel
  unfold knotB
  rw [mirA_get hj]
  have hf : fromToB (fneg .f32 (as.getD (as.length - 1 - j) 0)) 3204448256 1056964608 = true := by
    unfold knotB at hA
    rw [Bool.and_eq_true] at hA
    have := hA.1
    unfold fromToB at this ⊢
    rw [(fcmp_vl f1 w1).2.2.2.2.2, (fcmp_vl f1 w2).2.2.2.1] at this
    rw [(fcmp_vl n1 w1).2.2.2.2.2, (fcmp_vl n1 w2).2.2.2.1, n2]
    simp only [Bool.and_eq_true, decide_eq_true_eq] at this ⊢
    omega
  rw [hf, Bool.true_and]
  by_cases h0 : j = 0
  · subst h0; rfl
  · rw [decide_eq_false h0, Bool.false_or, mirA_get (show j - 1 < as.length by omega)]
    obtain ⟨g1, _, _⟩ := prof_num hv (show as.length - 1 - (j - 1) < as.length by omega)
    rw [finB_eq] at g1
    obtain ⟨m1, m2⟩ := neg_vl g1
    have hB := hk (as.length - 1 - (j - 1)) (by omega)
    unfold knotB at hB
    rw [decide_eq_false (by omega), Bool.false_or, Bool.and_eq_true, show as.length - 1 - (j - 1) - 1 = as.length - 1 - j by omega] at hB
    have := hB.2
    rw [(fcmp_vl g1 f1).2.2.2.1] at this
    rw [(fcmp_vl n1 m1).2.2.2.1, n2, m2]
    simp only [Bool.not_eq_true', decide_eq_false_iff_not] at this ⊢
    omega
def mq (q : Int) : Int := if q = -32 then -32 else - q
structure GoodP (as ls ds : List Nat) : Prop where
  valid : validProfB as ls ds = true
  kl : ∀ i, i < as.length → finB (atW as ls (wrapV (as.getD i 0))) = true ∧ (fcmp .lss .f32 (as.getD i 0) 1056964608 = true → fcmp .neq .f32 (atW as ls (wrapV (as.getD i 0))) (ls.getD i 0) = false)
  kd : ∀ i, i < as.length → finB (atW as ds (wrapV (as.getD i 0))) = true ∧ (fcmp .lss .f32 (as.getD i 0) 1056964608 = true → fcmp .neq .f32 (atW as ds (wrapV (as.getD i 0))) (ds.getD i 0) = false)
  lift : ∀ q : Int, -32 ≤ q → q ≤ 31 → finW .f32 (atW as ls (t64 q)) = true ∧ (∃ a, a < as.length ∧ vl .f32 (ls.getD a 0) ≤ vl .f32 (atW as ls (t64 q))) ∧ ∃ a, a < as.length ∧ vl .f32 (atW as ls (t64 q)) ≤ vl .f32 (ls.getD a 0)
  drag : ∀ q : Int, -32 ≤ q → q ≤ 31 → finW .f32 (atW as ds (t64 q)) = true ∧ 0 ≤ vl .f32 (atW as ds (t64 q))
  mir : ∀ (q : Int) (t : Nat), -32 ≤ q → q ≤ 31 → t = s64 (mq q) ∨ t = t64 (mq q) → finW .f32 (atW (mirA as) (mirA ls) t) = true ∧ (vl .f32 (atW (mirA as) (mirA ls) t) + vl .f32 (atW as ls (t64 q))).natAbs ≤ 2 ^ 135
  twice : ∀ q : Int, -32 ≤ q → q ≤ 31 → two .f32 (atW as ls (t64 q)) (atW as (dblL ls) (t64 q))
  dvalid : validProfB as (dblL ls) (dblL ds) = true
theorem mq_rg {q : Int} (h1 : -32 ≤ q) (h2 : q ≤ 31) : -32 ≤ mq q ∧ mq q ≤ 31 := by unfold mq; split <;> omega
theorem grid_seg {X T : Int → Nat} (hX : GridW X T) {us : List Int} {q : Int} {t : Nat} (hg : rise us) (hl : 2 ≤ us.length) (hq : -32 ≤ q ∧ q ≤ 31) (ht : t = T q)
    {ls ds : List Nat} (hv : validProfB (us.map X) ls ds = true) :
    ∃ (m D a b : Nat), SegP us q a b m D ∧ m ≤ 2 * D ∧ 1 ≤ D ∧ D ≤ 32 ∧ a < us.length ∧ b < us.length ∧ ∀ xs : List Nat, atW (us.map X) xs t = mixed (xs.getD a 0) (xs.getD b 0) (fracW m D) := by
  subst ht
  have hlen : (us.map X).length = us.length := List.length_map _
  have key : ∃ j, j ≤ us.length ∧ (∀ l, l < j → aboveB (us.map X) (T q) l = false) ∧ (j < us.length → aboveB (us.map X) (T q) j = true) := by
    have hgt : ∀ j, j < us.length → aboveB (us.map X) (T q) j = decide (q < 2 * us.getD j 0) := fun j hj => by
      unfold aboveB
      rw [map_getD X us hj]
      have := hg.1 j hj
      exact hX.gt this.1 this.2 hq.1 hq.2
    have find : ∀ n, (∃ j, j < n ∧ j < us.length ∧ (∀ l, l < j → aboveB (us.map X) (T q) l = false) ∧ aboveB (us.map X) (T q) j = true) ∨ ∀ l, l < n → l < us.length → aboveB (us.map X) (T q) l = false := by
      intro n
      induction n with
      | zero => exact .inr fun l hl => by omega
      | succ n ih =>
        rcases ih with ⟨j, h1, h2, h3, h4⟩ | h
        · exact .inl ⟨j, by omega, h2, h3, h4⟩
        · by_cases hn : n < us.length
          · cases hb : aboveB (us.map X) (T q) n with
            | true => exact .inl ⟨n, by omega, hn, fun l hl => h l hl (by omega), hb⟩
            | false =>
              refine .inr fun l hl1 hl2 => ?_
              by_cases e : l = n
              · rw [e]; exact hb
              · exact h l (by omega) hl2
          · exact .inr fun l hl1 hl2 => h l (by omega) hl2
    rcases find us.length with ⟨j, h1, h2, h3, h4⟩ | h
    · exact ⟨j, by omega, h3, fun _ => h4⟩
    · exact ⟨us.length, Nat.le_refl _, fun l hl => h l hl hl, fun h => by omega⟩
  obtain ⟨j, hj, ha, hb⟩ := key
  obtain ⟨m, D, k1, k2, k3, k4, k5, k6, k7, k8⟩ := seg_grid hX hg hl hq hj ha hb
  refine ⟨m, D, (pairR (us.map X) j).1, (pairR (us.map X) j).2.1, k8, k1, k2, k3, k6, k7, fun xs => ?_⟩
  unfold atW
  rw [findA_eq (us.map X) (T q) j (by rw [hlen]; exact hj) ha (fun h => hb (by rw [hlen] at h; exact h))]
  have hne : fcmp .neq .f32 (pairR (us.map X) j).2.2.1 (pairR (us.map X) j).2.2.2 = true := by
    have f1 : finW .f32 (pairR (us.map X) j).2.2.1 = true ∧ finW .f32 (pairR (us.map X) j).2.2.2 = true := let h := knots_fin hv (show j ≤ (us.map X).length by rw [hlen]; exact hj); ⟨h.1, h.2.1⟩
    have : fcmp .neq .f32 (pairR (us.map X) j).2.2.1 (pairR (us.map X) j).2.2.2 = !fcmp .eql .f32 (fop .sub .f32 (pairR (us.map X) j).2.2.2 (pairR (us.map X) j).2.2.1) 0 := by rw [sub_zero f1.2 f1.1, neq_eql (finW_nan f1.1) (finW_nan f1.2)]
    rw [this, k5, x_zero ⟨D, by omega⟩ k2]; rfl
  rw [if_pos hne, k4, k5]
  rfl
theorem mir_map (us : List Int) : (mir us).map y32 = mirA (us.map x32) := by
  unfold mir mirA
  rw [List.map_reverse, List.map_map, List.map_map]
  congr 1
  refine List.map_congr_left fun u _ => ?_
  show fneg .f32 (x32 (- -u)) = fneg .f32 (x32 u)
  rw [Int.neg_neg]
theorem fin_between {a b x : Nat} (ha : finW .f32 a = true) (hb : finW .f32 b = true) (h : (srung FloatKind.f32.format a ≤ srung FloatKind.f32.format x ∧ srung FloatKind.f32.format x ≤ srung FloatKind.f32.format b) ∨ (srung FloatKind.f32.format b ≤ srung FloatKind.f32.format x ∧ srung FloatKind.f32.format x ≤ srung FloatKind.f32.format a)) : finW .f32 x = true := by
  have h1 := finW_lt ha
  have h2 := finW_lt hb
  have abs : ∀ y, (srung FloatKind.f32.format y).natAbs = rg FloatKind.f32.format y := fun y => by
    unfold srung sg
    split <;> simp
  have e1 := abs a; have e2 := abs b; have e3 := abs x
  have : rg FloatKind.f32.format x < FloatKind.f32.format.infRung := by omega
  exact decide_eq_true this
theorem l8_bd (v : Fin 33) : (vl .f32 (l8 ((v : Int) - 16))).natAbs ≤ 2097152 * 2 ^ 130 := by revert v; decide +kernel
theorem d32_two (w : Fin 17) : leastB (fop .mul .f32 (x32 (w : Int)) 1073741824) = true := by revert w; decide +kernel
theorem grid_good {u : Int} {us vs ws : List Int} (hu1 : -16 ≤ u) (hu2 : u ≤ -8) (hc : climb u us) (hn1 : 2 ≤ us.length) (hn2 : us.length ≤ 6) (hv : vs.length = us.length) (hw : ws.length = us.length) (hvs : ∀ v ∈ vs, -6 ≤ v ∧ v ≤ 10) (hws : ∀ w ∈ ws, 0 ≤ w ∧ w ≤ 8) :
    GoodP (us.map x32) (vs.map l8) (ws.map x32) := by
  have hV := drawn_valid (.inr ⟨u, us, vs, ws, hu1, hu2, hc, hn1, hn2, hv, hw, hvs, hws, rfl, rfl, rfl⟩)
  have hr := drawn_rise ⟨hu1, hu2⟩ hc hn2
  have h15 : ∀ j, j < us.length → us.getD j 0 ≤ 15 := fun j hj => by have := (climb_get hc j hj).2; omega
  have bl : ∀ j, j < us.length → -16 ≤ vs.getD j 0 ∧ vs.getD j 0 ≤ 16 := fun j hj => by have := hvs _ (getD_mem (xs := vs) (j := j) (by omega)); omega
  have bd : ∀ j, j < us.length → 0 ≤ ws.getD j 0 ∧ ws.getD j 0 ≤ 16 := fun j hj => by have := hws _ (getD_mem (xs := ws) (j := j) (by omega)); omega
  have gl : ∀ j, j < us.length → (vs.map l8).getD j 0 = l8 (vs.getD j 0) := fun j hj => map_getD l8 vs (by omega)
  have gd : ∀ j, j < us.length → (ws.map x32).getD j 0 = x32 (ws.getD j 0) := fun j hj => map_getD x32 ws (by omega)
  have hsubL : ∀ a b, a < us.length → b < us.length → finW .f32 ((vs.map l8).getD a 0) = true ∧ finW .f32 (fop .sub .f32 ((vs.map l8).getD b 0) ((vs.map l8).getD a 0)) = true ∧ vl .f32 (fop .sub .f32 ((vs.map l8).getD b 0) ((vs.map l8).getD a 0)) = vl .f32 ((vs.map l8).getD b 0) - vl .f32 ((vs.map l8).getD a 0) := fun a b ha hb => by
    rw [gl a ha, gl b hb]; exact gl_sub (bl a ha).1 (bl a ha).2 (bl b hb).1 (bl b hb).2
  have hsubD : ∀ a b, a < us.length → b < us.length → finW .f32 ((ws.map x32).getD a 0) = true ∧ finW .f32 (fop .sub .f32 ((ws.map x32).getD b 0) ((ws.map x32).getD a 0)) = true ∧ vl .f32 (fop .sub .f32 ((ws.map x32).getD b 0) ((ws.map x32).getD a 0)) = vl .f32 ((ws.map x32).getD b 0) - vl .f32 ((ws.map x32).getD a 0) := fun a b ha hb => by
    rw [gd a ha, gd b hb]; exact gd_sub (bd a ha).1 (bd a ha).2 (bd b hb).1 (bd b hb).2
  have seg := fun (q : Int) (h1 : -32 ≤ q) (h2 : q ≤ 31) => grid_seg grid_x32 (q := q) hr hn1 ⟨h1, h2⟩ rfl hV
  have between : ∀ (xs : List Nat), (∀ a b, a < us.length → b < us.length → finW .f32 (xs.getD a 0) = true ∧ finW .f32 (fop .sub .f32 (xs.getD b 0) (xs.getD a 0)) = true ∧ vl .f32 (fop .sub .f32 (xs.getD b 0) (xs.getD a 0)) = vl .f32 (xs.getD b 0) - vl .f32 (xs.getD a 0)) →
      ∀ q, -32 ≤ q → q ≤ 31 → ∃ a b, a < us.length ∧ b < us.length ∧ finW .f32 (atW (us.map x32) xs (t64 q)) = true ∧ ((vl .f32 (xs.getD a 0) ≤ vl .f32 (atW (us.map x32) xs (t64 q)) ∧ vl .f32 (atW (us.map x32) xs (t64 q)) ≤ vl .f32 (xs.getD b 0))) := by
    intro xs hs q h1 h2
    obtain ⟨m, D, a, b, _, k1, k2, k3, k4, k5, k6⟩ := seg q h1 h2
    rw [k6 xs]
    obtain ⟨s1, s2, s3⟩ := hs a b k4 k5
    obtain ⟨s4, _, _⟩ := hs b a k5 k4
    obtain ⟨q1, q2⟩ := frac_unit k1 k2 k3
    have hm := mix_between s1 s4 q2 q1 s2 s3
    rcases Int.le_total (vl .f32 (xs.getD a 0)) (vl .f32 (xs.getD b 0)) with h | h
    · have hh := hm.1 h
      exact ⟨a, b, k4, k5, fin_between s1 s4 (.inl hh), vl_le.2 hh.1, vl_le.2 hh.2⟩
    · have hh := hm.2 h
      exact ⟨b, a, k5, k4, fin_between s1 s4 (.inr hh), vl_le.2 hh.1, vl_le.2 hh.2⟩
  have knot : ∀ (xs : List Nat), (∀ a b, a < us.length → b < us.length → finW .f32 (xs.getD a 0) = true ∧ finW .f32 (fop .sub .f32 (xs.getD b 0) (xs.getD a 0)) = true ∧ vl .f32 (fop .sub .f32 (xs.getD b 0) (xs.getD a 0)) = vl .f32 (xs.getD b 0) - vl .f32 (xs.getD a 0)) →
      ∀ i, i < us.length → finB (atW (us.map x32) xs (wrapV ((us.map x32).getD i 0))) = true ∧ fcmp .neq .f32 (atW (us.map x32) xs (wrapV ((us.map x32).getD i 0))) (xs.getD i 0) = false := by
    intro xs hs i hi
    have r1 := (hr.1 i hi).1
    have r2 := h15 i hi
    have hk := knot_q ⟨(us.getD i 0 + 16).toNat, by omega⟩
    simp only at hk
    rw [show (((us.getD i 0 + 16).toNat : Int)) - 16 = us.getD i 0 by omega] at hk
    rw [map_getD x32 us hi, hk.2]
    obtain ⟨m, D, a, b, k0, k1, k2, k3, k4, k5, k6⟩ := seg (2 * us.getD i 0) (by omega) (by omega)
    obtain ⟨rfl, rfl⟩ := seg_knot hr hi k0
    rw [k6 xs, frac_zero ⟨D, by omega⟩ k2]
    obtain ⟨s1, s2, s3⟩ := hs a b k4 k5
    obtain ⟨z1, z2⟩ := mix_zero s1 s2
    unfold mixed
    rw [finB_eq]
    refine ⟨z1, ?_⟩
    rw [(fcmp_vl z1 s1).2.1, z2]
    simp
  refine ⟨hV, ?_, ?_, ?_, ?_, ?_, ?_, ?_⟩
  · intro i hi
    rw [List.length_map] at hi
    obtain ⟨k1, k2⟩ := knot _ hsubL i hi
    exact ⟨k1, fun _ => k2⟩
  · intro i hi
    rw [List.length_map] at hi
    obtain ⟨k1, k2⟩ := knot _ hsubD i hi
    exact ⟨k1, fun _ => k2⟩
  · intro q h1 h2
    obtain ⟨a, b, ha, hb, hf, l1, l2⟩ := between _ hsubL q h1 h2
    exact ⟨hf, ⟨a, by rw [List.length_map]; exact ha, l1⟩, ⟨b, by rw [List.length_map]; exact hb, l2⟩⟩
  · intro q h1 h2
    obtain ⟨a, b, ha, hb, hf, l1, l2⟩ := between _ hsubD q h1 h2
    refine ⟨hf, Int.le_trans ?_ l1⟩
    rw [gd a ha]
    have := bd a ha
    have hm := x32_mg ⟨(ws.getD a 0).toNat, by omega⟩
    simp only at hm
    rw [show (((ws.getD a 0).toNat : Int)) = ws.getD a 0 by omega] at hm
    unfold vl
    rw [hm.2.2]
    simp [sg]
  · intro q t h1 h2 ht
    obtain ⟨m, D, a, b, k0, k1, k2, k3, k4, k5, k6⟩ := seg q h1 h2
    have hmv := mirror_valid hV
    rw [← mir_map] at hmv ⊢
    have hmq := mq_rg h1 h2
    have hmr := mir_rise hr
    have hml : 2 ≤ (mir us).length := by rw [mir_length]; exact hn1
    obtain ⟨m', D', a', b', j0, j1, j2, j3, j4, j5, j6⟩ : ∃ (m D a b : Nat), SegP (mir us) (mq q) a b m D ∧ m ≤ 2 * D ∧ 1 ≤ D ∧ D ≤ 32 ∧ a < (mir us).length ∧ b < (mir us).length ∧ ∀ xs : List Nat, atW ((mir us).map y32) xs t = mixed (xs.getD a 0) (xs.getD b 0) (fracW m D) := by
      rcases ht with ht | ht
      · exact grid_seg grid_y32 hmr hml hmq ht hmv
      · exact grid_seg grid_y32t hmr hml hmq ht hmv
    rw [mir_length] at j4 j5
    rw [j6, k6]
    have hq' : (q = -32 ∧ mq q = -32) ∨ (q ≠ -32 ∧ mq q = -q) := by
      unfold mq
      by_cases e : q = -32
      · exact .inl ⟨e, if_pos e⟩
      · exact .inr ⟨e, if_neg e⟩
    obtain ⟨f1, f2, f3⟩ := mirror_mixed (xs := vs.map l8) (ys := mirA (vs.map l8)) hr h15 hn1 ⟨h1, h2⟩ hq' k0 j0 k1 k2 k3 j2 j3 k4 k5 j4 j5
      (fun j hj => by rw [mirA_get (by rw [List.length_map]; omega), List.length_map, hv])
      (fun j hj => by
        rw [gl j hj]
        have := bl j hj
        have hb := l8_bd ⟨(vs.getD j 0 + 16).toNat, by omega⟩
        simp only at hb
        rw [show (((vs.getD j 0 + 16).toNat : Int)) - 16 = vs.getD j 0 by omega] at hb
        exact hb) hsubL
    exact ⟨f2, Nat.le_trans f3 (by decide +kernel)⟩
  · intro q h1 h2
    obtain ⟨m, D, a, b, k0, k1, k2, k3, k4, k5, k6⟩ := seg q h1 h2
    rw [k6, k6, dblL_get (by rw [List.length_map]; omega), dblL_get (by rw [List.length_map]; omega), gl a k4, gl b k5]
    exact twice_grid (bl a k4) (bl b k5) k1 k2 k3
  · refine scaled_valid hV (by rw [dblL_length, List.length_map, List.length_map, hv]) (by rw [dblL_length, List.length_map, List.length_map, hw]) (fun j hj => ?_) (fun j hj => ?_)
    · rw [List.length_map] at hj
      rw [dblL_get (by rw [List.length_map]; omega), gl j hj, finB_eq]
      have := bl j hj
      have g := l8_two ⟨(vs.getD j 0 + 16).toNat, by omega⟩ ⟨(vs.getD j 0 + 16).toNat, by omega⟩
      simp only at g
      rw [show (((vs.getD j 0 + 16).toNat : Int)) - 16 = vs.getD j 0 by omega] at g
      exact g.1.2.1
    · rw [List.length_map] at hj
      rw [dblL_get (by rw [List.length_map]; omega), gd j hj]
      have := bd j hj
      have g := d32_two ⟨(ws.getD j 0).toNat, by omega⟩
      simp only at g
      rw [show (((ws.getD j 0).toNat : Int)) = ws.getD j 0 by omega] at g
      exact g
theorem nx_r1 {xs : List Int} {n : Nat} {a s : Int} (hx : byteL xs) (h0 : 0 ≤ a) (h1 : a ≤ 1099511627776) :
    ∃ r a' s', z2j xs n a s = true ∧ z0m xs n a s = r ∧ z01 xs n a s = a' ∧ z00 xs n a s = s' ∧ (0 ≤ r ∧ r ≤ 255) ∧ (0 ≤ a' ∧ a' ≤ a + 1) := by
  obtain ⟨r, a', s', h, hb⟩ := nx_ok (n := n) (s := s) hx h0 h1
  obtain ⟨m, hm⟩ := big_succ
  obtain ⟨p, q0, q1, q2⟩ := zec (m := big) rfl (show z0r xs n a s big = some (r, a', s') by rw [hm, zdm]; exact h)
  exact ⟨r, a', s', p, q0, q1, q2, hb⟩
theorem nx_r2 {xs : List Int} {n : Nat} {a s : Int} (hx : byteL xs) (h0 : 0 ≤ a) (h1 : a ≤ 1099511627776) :
    ∃ r a' s', z11 xs n a s = true ∧ z07 xs n a s = r ∧ z02 xs n a s = a' ∧ z03 xs n a s = s' ∧ (0 ≤ r ∧ r ≤ 255) ∧ (0 ≤ a' ∧ a' ≤ a + 1) := by
  obtain ⟨r, a', s', h, hb⟩ := nx_ok (n := n) (s := s) hx h0 h1
  obtain ⟨m, hm⟩ := big_succ
  obtain ⟨p, q0, q1, q2⟩ := zdr (m := big) rfl (show z0n xs n a s big = some (r, a', s') by rw [hm, zd1]; exact h)
  exact ⟨r, a', s', p, q0, q1, q2, hb⟩
theorem r8_draw {xs : List Int} {n : Nat} (hx : byteL xs) : ∀ (m : Nat) (u a s : Int) (us ls ds : List Int) (f : Nat), m < f → -16 ≤ u → u + 4 * m ≤ 16 → 0 ≤ a → a + 3 * m ≤ 1099511627776 → ls.length = us.length → ds.length = us.length → us.length + m ≤ 100 →
    ∃ us' ls' ds' u' a' s', z0b xs n f (x32 u) (Int.ofNat m) a s us.length us.length us.length (us.map x32) (ls.map l8) (ds.map x32) = some (x32 u', 0, false, a', s', us.length + m, us.length + m, us.length + m, (us ++ us').map x32, (ls ++ ls').map l8, (ds ++ ds').map x32) ∧
      us'.length = m ∧ ls'.length = m ∧ ds'.length = m ∧ climb u us' ∧ (∀ v ∈ ls', -6 ≤ v ∧ v ≤ 10) ∧ (∀ v ∈ ds', 0 ≤ v ∧ v ≤ 8) ∧ 0 ≤ a' ∧ a' ≤ a + 3 * m
  | 0, u, a, s, us, ls, ds, f, hf, _, _, ha, _, _, _, _ => by
    obtain ⟨f, rfl⟩ : ∃ g, f = g + 1 := ⟨f - 1, by omega⟩
    refine ⟨[], [], [], u, a, s, ?_, rfl, rfl, rfl, trivial, by simp, by simp, ha, by omega⟩
    rw [z7g]; unfold z1c
    simp only [List.append_nil, Nat.add_zero]
    rfl
  | m + 1, u, a, s, us, ls, ds, f, hf, hu1, hu2, ha, ha2, hl, hd, hn => by
    obtain ⟨f, rfl⟩ : ∃ g, f = g + 1 := ⟨f - 1, by omega⟩
    obtain ⟨r1, a1, s1, p1, q1, w1, v1, b1, c1⟩ := nx_r2 (n := n) (s := s) hx ha (by omega)
    obtain ⟨r2, a2, s2, p2, q2, w2, v2, b2, c2⟩ := nx_r2 (n := n) (a := a1) (s := s1) hx (by omega) (by omega)
    obtain ⟨r3, a3, s3, p3, q3, w3, v3, b3, c3⟩ := nx_r2 (n := n) (a := a2) (s := s2) hx (by omega) (by omega)
    have g1 := pick_in b1 (m := 17) (by omega)
    have g2 := pick_in b2 (m := 9) (by omega)
    have g3 := pick_in b3 (m := 4) (by omega)
    have e1 : subI .i64 (remI r1 17) 6 = remI r1 17 - 6 := wrap64 (by omega) (by omega)
    have e3 : addI .i64 1 (remI r3 4) = 1 + remI r3 4 := wrap64 (by omega) (by omega)
    have en : subI .i64 (Int.ofNat (m + 1)) 1 = Int.ofNat m := by
      have : subI .i64 (Int.ofNat (m + 1)) 1 = (Int.ofNat (m + 1)) - 1 := wrap64 (by simp <;> omega) (by simp <;> omega)
      rw [this]; simp
    have hx1 : fop .add .f32 (x32 u) (fop .quo .f32 (fOI .f32 (1 + remI r3 4)) 1107296256) = x32 (u + (1 + remI r3 4)) := x32_step hu1 (by omega) (by omega) (by omega)
    have k1 : okNz 17 = true := rfl
    have k2 : okNz 9 = true := rfl
    have k3 : okNz 4 = true := rfl
    obtain ⟨us', ls', ds', u', a', s', h, t1, t2, t3, t4, t5, t6, t7, t8⟩ := r8_draw hx m (u + (1 + remI r3 4)) a3 s3 (us ++ [u]) (ls ++ [remI r1 17 - 6]) (ds ++ [remI r2 9]) f (by omega) (by omega) (by omega) (by omega) (by omega) (by simp [hl]) (by simp [hd]) (by simp <;> omega)
    refine ⟨u :: us', (remI r1 17 - 6) :: ls', remI r2 9 :: ds', u', a', s', ?_, by simp [t1], by simp [t2], by simp [t3], ⟨rfl, 1 + remI r3 4, by omega, by omega, t4⟩, ?_, ?_, t7, by omega⟩
    · rw [z7g]; unfold z1c
      rw [show ltI 0 (Int.ofNat (m + 1)) = true from ltI_t (by simp <;> omega)]
      simp only [p1, q1, w1, v1, p2, q2, w2, v2, p3, q3, w3, v3, k1, k2, k3, e1, e3, en, hx1, br_true, grd_true]
      rw [okA2_1 _ (b := us.map x32) (by simp) (by omega), okA2_1 _ (b := ls.map l8) (by simp [hl]) (by omega), okA2_1 _ (b := ds.map x32) (by simp [hd]) (by omega)]
      simp only [grd_true]
      simp only [List.append_assoc, List.cons_append, List.nil_append, List.length_append, List.length_cons, List.length_nil] at h
      rw [show us.length + (m + 1) = us.length + (0 + 1) + m by omega]
      rw [← h]
      simp only [List.map_append]
      rfl
    · intro v hv
      rcases List.mem_cons.1 hv with rfl | hv
      · omega
      · exact t5 v hv
    · intro v hv
      rcases List.mem_cons.1 hv with rfl | hv
      · omega
      · exact t6 v hv
theorem R8_draw {xs : List Int} {n : Nat} (hx : byteL xs) : ∃ as ls ds, DrawnP as ls ds ∧ as.length ≤ 9 ∧ z2u n xs = some (as.length, ls.length, ds.length, as, ls, ds) := by
  obtain ⟨r0, a0, s0, p0, q0, w0, v0, b0, c0⟩ := nx_r1 (n := n) (a := 0) (s := 0) hx (by omega) (by omega)
  have g0 := pick_in b0 (m := 4) (by omega)
  by_cases hz : remI r0 4 = 0
  · obtain ⟨r1, a1, s1, p1, q1, w1, v1, b1, c1⟩ := nx_r1 (n := n) (a := a0) (s := s0) hx (by omega) (by omega)
    have h1 := pick_in b1 (m := 8) (by omega)
    have e1 : addI .i64 2 (remI r1 8) = Int.ofNat (2 + remI r1 8).toNat := by
      have : addI .i64 2 (remI r1 8) = 2 + remI r1 8 := wrap64 (by omega) (by omega)
      rw [this]; simp; omega
    obtain ⟨y0, y1, y2, y3, y4, y5, y6⟩ := zmn (spec_l02Plate_eq (n := (2 + remI r1 8).toNat) (by omega))
    have k4 : okNz 4 = true := rfl
    have k8 : okNz 8 = true := rfl
    refine ⟨_, _, _, .inl ⟨(2 + remI r1 8).toNat, by omega, by omega, rfl, rfl, rfl⟩, by rw [listOf_length]; omega, ?_⟩
    unfold z2u z5e
    simp only [p0, q0, w0, v0, hz, p1, q1, w1, v1, e1, y0, y1, y2, y3, y4, y5, y6, k8, k4, grd_true, listOf_length]
    rfl
  · obtain ⟨r1, a1, s1, p1, q1, w1, v1, b1, c1⟩ := nx_r2 (n := n) (a := a0) (s := s0) hx (by omega) (by omega)
    obtain ⟨r2, a2, s2, p2, q2, w2, v2, b2, c2⟩ := nx_r2 (n := n) (a := a1) (s := s1) hx (by omega) (by omega)
    have h1 := pick_in b1 (m := 9) (by omega)
    have h2 := pick_in b2 (m := 5) (by omega)
    have e1 : subI .i64 (remI r1 9) 16 = remI r1 9 - 16 := wrap64 (by omega) (by omega)
    have e2 : addI .i64 2 (remI r2 5) = Int.ofNat (2 + remI r2 5).toNat := by
      have : addI .i64 2 (remI r2 5) = 2 + remI r2 5 := wrap64 (by omega) (by omega)
      rw [this]; simp; omega
    have ex : fop .quo .f32 (fOI .f32 (remI r1 9 - 16)) 1107296256 = x32 (remI r1 9 - 16) := rfl
    obtain ⟨us, vs, ws, u', a3, s3, h, t1, t2, t3, t4, t5, t6, t7, t8⟩ := r8_draw (n := n) hx (2 + remI r2 5).toNat (remI r1 9 - 16) a2 s2 [] [] [] big (big_gt (by omega)) (by omega) (by omega) (by omega) (by omega) rfl rfl (by simp <;> omega)
    obtain ⟨n0, n1, n2, n3⟩ := zj6 (show z6g = some ([], [], []) from rfl)
    obtain ⟨z1, _, _, _, z2, z3, z4, z5, z6, z7, z8, z9⟩ := zer rfl (show z0b xs n big (x32 (remI r1 9 - 16)) (Int.ofNat (2 + remI r2 5).toNat) a2 s2 0 0 0 [] [] [] = some _ from h)
    simp only [List.length_nil, Nat.zero_add, List.nil_append] at z4 z5 z6 z7 z8 z9
    have k4 : okNz 4 = true := rfl
    have k9 : okNz 9 = true := rfl
    have k5 : okNz 5 = true := rfl
    refine ⟨us.map x32, vs.map l8, ws.map x32, .inr ⟨remI r1 9 - 16, us, vs, ws, by omega, by omega, t4, by omega, by omega, by omega, by omega, t5, t6, rfl, rfl, rfl⟩, by rw [List.length_map, t1]; omega, ?_⟩
    unfold z2u z5e
    simp only [p0, q0, w0, v0, p1, q1, w1, v1, p2, q2, w2, v2, e1, e2, ex, n0, n1, n2, n3, z1, z2, z3, z4, z5, z6, z7, z8, z9, k9, k5, k4, grd_true, List.length_map, t1, t2, t3]
    rw [show eqI (remI r0 4) 0 = false from decide_eq_false hz, br_false]
def pA : List (List Nat) := [[3204448256, 1056964608], [3204448256, 0, 1056964608], [3204448256, 3190467242, 1042983596, 1056964608], [3204448256, 3196059648, 0, 1048576000, 1056964608], [3204448256, 3197737370, 3184315596, 1036831952, 1050253722, 1056964608], [3204448256, 3198855850, 3190467242, 0, 1042983596, 1051372202, 1056964608], [3204448256, 3199654766, 3193662902, 3180480804, 1032997160, 1046179256, 1052171118, 1056964608], [3204448256, 3200253952, 3196059648, 3187671040, 0, 1040187392, 1048576000, 1052770304, 1056964608]]
def pL : List (List Nat) := [[0, 0], [0, 0, 0], [0, 3210589145, 1063105493, 0], [0, 2147483648, 0, 2147483648, 0], [0, 1058437402, 3212015729, 1064532081, 3205921050, 0], [0, 1063105493, 3210589145, 0, 1063105493, 3210589141, 0], [0, 1064932577, 3202229767, 3209176604, 1061692959, 1054746108, 3212416225, 0], [0, 1065353215, 2147483648, 3212836863, 0, 1065353215, 2147483648, 3212836863, 0]]
def pD : List (List Nat) := [[0, 0], [0, 0, 0], [0, 1069547520, 1069547521, 0], [0, 1073741824, 0, 1073741824, 0], [0, 1072139741, 1060168771, 1060168776, 1072139741, 0], [0, 1069547521, 1069547520, 0, 1069547521, 1069547521, 0], [0, 1067219856, 1072911090, 1052820977, 1052820986, 1072911092, 1067219856, 0], [0, 1065353215, 1073741824, 1065353215, 0, 1065353215, 1073741824, 1065353215, 0]]
theorem plates_lit (m : Fin 8) : listOf (plateA (m.val + 2)) (m.val + 2) = pA.getD m.val [] ∧ listOf (plateL (m.val + 2)) (m.val + 2) = pL.getD m.val [] ∧ listOf (plateD (m.val + 2)) (m.val + 2) = pD.getD m.val [] := by revert m; decide +kernel
noncomputable def kB (as xs : List Nat) : Bool := (List.range as.length).all fun i => finB (atW as xs (wrapV (as.getD i 0))) && (!fcmp .lss .f32 (as.getD i 0) 1056964608 || !fcmp .neq .f32 (atW as xs (wrapV (as.getD i 0))) (xs.getD i 0))
def liftB (as ls : List Nat) (q : Int) : Bool := finW .f32 (atW as ls (t64 q)) && ((List.range as.length).any (fun a => decide (vl .f32 (ls.getD a 0) ≤ vl .f32 (atW as ls (t64 q)))) && (List.range as.length).any (fun a => decide (vl .f32 (atW as ls (t64 q)) ≤ vl .f32 (ls.getD a 0))))
def dragB (as ds : List Nat) (q : Int) : Bool := finW .f32 (atW as ds (t64 q)) && decide (0 ≤ vl .f32 (atW as ds (t64 q)))
def mirB (as ls : List Nat) (q : Int) (t : Nat) : Bool := finW .f32 (atW (mirA as) (mirA ls) t) && decide ((vl .f32 (atW (mirA as) (mirA ls) t) + vl .f32 (atW as ls (t64 q))).natAbs ≤ 2 ^ 135)
def twoB (x y : Nat) : Bool := finW .f32 x && (finW .f32 y && (nn .f32 y == nn .f32 x && decide (mg .f32 y = 2 * mg .f32 x)))
def goodQ (as ls ds : List Nat) (q : Int) : Bool := liftB as ls q && (dragB as ds q && (mirB as ls q (s64 (mq q)) && (mirB as ls q (t64 (mq q)) && twoB (atW as ls (t64 q)) (atW as (dblL ls) (t64 q)))))
noncomputable def goodB (as ls ds : List Nat) : Bool := validProfB as ls ds && (kB as ls && (kB as ds && (validProfB as (dblL ls) (dblL ds) && (List.range 64).all fun q => goodQ as ls ds ((q : Int) - 32))))
theorem plates_good : (List.range 8).all (fun m => goodB (pA.getD m []) (pL.getD m []) (pD.getD m [])) = true := by decide +kernel
theorem good_of {as ls ds : List Nat} (h : goodB as ls ds = true) : GoodP as ls ds := by
  unfold goodB at h
  simp only [Bool.and_eq_true] at h
  obtain ⟨h1, h2, h3, h4, h5⟩ := h
  have kn : ∀ xs : List Nat, kB as xs = true → ∀ i, i < as.length → finB (atW as xs (wrapV (as.getD i 0))) = true ∧ (fcmp .lss .f32 (as.getD i 0) 1056964608 = true → fcmp .neq .f32 (atW as xs (wrapV (as.getD i 0))) (xs.getD i 0) = false) := by
    intro xs hk i hi
    have := range_all.1 hk i hi
    simp only [Bool.and_eq_true, Bool.or_eq_true, Bool.not_eq_true'] at this
    refine ⟨this.1, fun hl => ?_⟩
    rcases this.2 with h | h
    · rw [hl] at h; cases h
    · exact h
  have hq : ∀ q : Int, -32 ≤ q → q ≤ 31 → goodQ as ls ds q = true := fun q a b => by
    have := range_all.1 h5 (q + 32).toNat (by omega)
    rw [show (((q + 32).toNat : Int)) - 32 = q by omega] at this
    exact this
  refine ⟨h1, kn ls h2, kn ds h3, fun q a b => ?_, fun q a b => ?_, fun q t a b ht => ?_, fun q a b => ?_, h4⟩
  · have := hq q a b
    unfold goodQ liftB at this
    simp only [Bool.and_eq_true, List.any_eq_true, List.mem_range, decide_eq_true_eq] at this
    exact this.1
  · have := hq q a b
    unfold goodQ dragB at this
    simp only [Bool.and_eq_true, decide_eq_true_eq] at this
    exact this.2.1
  · have := hq q a b
    unfold goodQ mirB at this
    simp only [Bool.and_eq_true, decide_eq_true_eq] at this
    rcases ht with rfl | rfl
    · exact this.2.2.1
    · exact this.2.2.2.1
  · have := hq q a b
    unfold goodQ twoB at this
    simp only [Bool.and_eq_true, decide_eq_true_eq, beq_iff_eq] at this
    exact ⟨this.2.2.2.2.1, this.2.2.2.2.2.1, this.2.2.2.2.2.2.1, this.2.2.2.2.2.2.2⟩
theorem drawn_good {as ls ds : List Nat} (h : DrawnP as ls ds) : GoodP as ls ds := by
  rcases h with ⟨m, h1, h2, rfl, rfl, rfl⟩ | ⟨u, us, vs, ws, hu1, hu2, hc, hn1, hn2, hv, hw, hvs, hws, rfl, rfl, rfl⟩
  · have hl := plates_lit ⟨m - 2, by omega⟩
    have hg := range_all.1 plates_good (m - 2) (by omega)
    simp only at hl
    rw [show m - 2 + 2 = m by omega] at hl
    rw [hl.1, hl.2.1, hl.2.2]
    exact good_of hg
  · exact grid_good hu1 hu2 hc hn1 hn2 hv hw hvs hws
theorem negB_eq {xs : List Nat} {n : Nat} (h : xs.length = n) : negB xs n = mirA xs := by
  subst h
  unfold negB mirA
  apply List.ext_getElem
  · simp
  · intro i h1 h2
    simp only [List.length_map, List.length_range] at h1
    simp [List.getD_eq_getElem?_getD, List.getElem?_eq_getElem (show xs.length - 1 - i < xs.length by omega)]
theorem revB_eq {xs : List Nat} {n : Nat} (h : xs.length = n) : revB xs n = xs.reverse := by
  subst h
  unfold revB
  apply List.ext_getElem
  · simp
  · intro i h1 h2
    simp only [List.length_map, List.length_range] at h1
    simp [List.getD_eq_getElem?_getD, List.getElem?_eq_getElem (show xs.length - 1 - i < xs.length by omega)]
theorem impl_MirrorProfile_eq {as ls ds : List Nat} (hv : validProfB as ls ds = true) : z1u as.length as ls.length ls ds.length ds = some (as.length, as.length, as.length, true, mirA as, mirA ls, ds.reverse) := by
  obtain ⟨c1, c2, c3, c4⟩ := validProfB_len hv
  obtain ⟨p1, q1⟩ := z26 (impl_ValidProfile_eq (as := as) (ls := ls) (ds := ds) (by omega) (by omega))
  have ho : okMir as.length ls.length ds.length = true := by
    unfold okMir
    rw [decide_eq_true (show 0 < as.length by omega), decide_eq_true c2, decide_eq_true (show as.length ≤ ls.length by omega), decide_eq_true (show as.length ≤ ds.length by omega)]; rfl
  unfold z1u
  simp only [pF_all, p1, q1, hv, ho, grd_true]
  rw [negB_eq rfl, negB_eq c3, revB_eq c4]
  rfl
theorem mid_get {xs ys : List Nat} {i : Nat} (h : xs.length = ys.length) (hi : i < ys.length) : (xs.take i ++ ys.drop i).getD i 0 = ys.getD i 0 := by
  have h1 : (xs.take i).length = i := by rw [List.length_take]; omega
  rw [List.getD_eq_getElem?_getD, List.getElem?_append_right (by omega), h1, Nat.sub_self, List.getElem?_drop, List.getD_eq_getElem?_getD]
  simp
theorem impl_ScaleP_loop {ls ds : List Nat} (h : ds.length = ls.length) (hl : ls.length ≤ 24) :
    z0t 1073741824 1073741824 (Int.ofNat ls.length) ls.length ds.length big 0 ls ds = some (Int.ofNat ls.length, false, dblL ls, dblL ds) := by
  have e1 := dblL_length ls
  have e2 := dblL_length ds
  have := runs (L := fun m i => z0t 1073741824 1073741824 (Int.ofNat ls.length) ls.length ds.length m i ((dblL ls).take i.toNat ++ ls.drop i.toNat) ((dblL ds).take i.toNat ++ ds.drop i.toNat)) (len := ls.length) (e := (Int.ofNat ls.length, false, dblL ls, dblL ds))
    (fun m i hi => by
      show z0t _ _ _ _ _ _ _ ((dblL ls).take i ++ ls.drop i) ((dblL ds).take i ++ ds.drop i) = z0t _ _ _ _ _ _ _ ((dblL ls).take (i + 1) ++ ls.drop (i + 1)) ((dblL ds).take (i + 1) ++ ds.drop (i + 1))
      rw [zbt]; unfold z2i
      rw [ltN_t hi, okIx_t hi, okIx_t (show i < ds.length by omega), ix1, addI1 (by omega)]
      simp only [br_true, grd_true, gF]
      rw [mid_get e1 hi, mid_get e2 (by omega), ← put1 (xs := dblL ls) (zs := ls) (by omega) (by omega), ← put1 (xs := dblL ds) (zs := ds) (by omega) (by omega), dblL_get hi, dblL_get (by omega)])
    (fun m => by
      show z0t _ _ _ _ _ _ _ ((dblL ls).take ls.length ++ ls.drop ls.length) ((dblL ds).take ls.length ++ ds.drop ls.length) = _
      rw [zbt]; unfold z2i
      rw [ltN_f (Nat.le_refl _), br_false, List.take_of_length_le (by omega), List.take_of_length_le (by omega), List.drop_of_length_le (by omega), List.drop_of_length_le (by omega), List.append_nil, List.append_nil]) (by omega)
  simpa using this
theorem impl_ScaleProfile_eq {as ls ds : List Nat} (hv : validProfB as ls ds = true) (hd : validProfB as (dblL ls) (dblL ds) = true) : z23 as.length as ls.length ls ds.length ds 1073741824 1073741824 = some (as.length, as.length, as.length, true, as, dblL ls, dblL ds) := by
  obtain ⟨c1, c2, c3, c4⟩ := validProfB_len hv
  obtain ⟨p1, q1⟩ := z26 (impl_ValidProfile_eq (as := as) (ls := ls) (ds := ds) (by omega) (by omega))
  obtain ⟨e0, e1, e2, e3, e4, e5, e6⟩ := zfm (impl_copyProfile_eq (as := as) (ls := ls) (ds := ds) (by omega) (by omega) (by omega))
  obtain ⟨g1, _, _, g2, g3⟩ := zhm rfl (impl_ScaleP_loop (ls := ls) (ds := ds) (by omega) (by omega))
  have m1 := dblL_length ls
  have m2 := dblL_length ds
  obtain ⟨p5, q5⟩ := z26 (impl_ValidProfile_eq (as := as) (ls := dblL ls) (ds := dblL ds) (by omega) (by omega))
  rw [m1, m2] at p5 q5
  have pm1 : pF (dblL ls) 0 (muN ls.length 1) = dblL ls := by rw [← m1]; exact pF_all _
  have pm2 : pF (dblL ds) 0 (muN ds.length 1) = dblL ds := by rw [← m2]; exact pF_all _
  unfold z23 z51
  simp only [pF_all, p1, q1, hv, e0, e1, e2, e3, e4, e5, e6, g1, g2, g3, pm1, pm2, p5, q5, hd, grd_true, bnot_true, br_false]
  rw [c3, c4]
theorem impl_cut_loop {as ls ds : List Nat} (hv : validProfB as ls ds = true) :
    z1m 3204448256 1056964608 as.length (Int.ofNat as.length) as ls ds ls.length ds.length big 0 0 0 0 [] [] [] = some (Int.ofNat as.length, false, as.length, as.length, as.length, as, ls, ds) := by
  obtain ⟨c1, c2, c3, c4⟩ := validProfB_len hv
  have hk := prof_knots hv
  have := runs (L := fun m i => z1m 3204448256 1056964608 as.length (Int.ofNat as.length) as ls ds ls.length ds.length m i i.toNat i.toNat i.toNat (as.take i.toNat) (ls.take i.toNat) (ds.take i.toNat)) (len := as.length) (e := (Int.ofNat as.length, false, as.length, as.length, as.length, as, ls, ds))
    (fun m i hi => by
      show z1m _ _ _ _ _ _ _ _ _ _ _ i i i (as.take i) (ls.take i) (ds.take i) = z1m _ _ _ _ _ _ _ _ _ _ _ (i + 1) (i + 1) (i + 1) (as.take (i + 1)) (ls.take (i + 1)) (ds.take (i + 1))
      obtain ⟨p1, q1⟩ := zhq (impl_isFromTo_eq (as.getD i 0) 3204448256 1056964608)
      have hf : fromToB (as.getD i 0) 3204448256 1056964608 = true := by have := hk i hi; unfold knotB at this; rw [Bool.and_eq_true] at this; exact this.1
      rw [zgb]; unfold z5b
      rw [ltN_t hi, okIx_t hi, okIx_t (show i < ls.length by omega), okIx_t (show i < ds.length by omega), ix1, addI1 (by omega)]
      rw [okA2_1 _ (b := as.take i) (by rw [List.length_take]; omega) (by omega), okA2_1 _ (b := ls.take i) (by rw [List.length_take]; omega) (by omega), okA2_1 _ (b := ds.take i) (by rw [List.length_take]; omega) (by omega)]
      rw [← take_succ_getD (ys := as) (by omega), ← take_succ_getD (ys := ls) (by omega), ← take_succ_getD (ys := ds) (by omega)]
      simp only [br_true, grd_true, gF, p1, q1, hf]
      rfl)
    (fun m => by
      show z1m _ _ _ _ _ _ _ _ _ _ _ as.length as.length as.length (as.take as.length) (ls.take as.length) (ds.take as.length) = _
      rw [zgb]; unfold z5b
      rw [ltN_f (Nat.le_refl _), br_false, List.take_of_length_le (by omega), List.take_of_length_le (by omega), List.take_of_length_le (by omega)]) (by omega)
  simpa using this
theorem impl_CutProfile_eq {as ls ds : List Nat} (hv : validProfB as ls ds = true) : z2e as.length as ls.length ls ds.length ds 3204448256 1056964608 = some (as.length, as.length, as.length, true, as, ls, ds) := by
  obtain ⟨c1, c2, c3, c4⟩ := validProfB_len hv
  obtain ⟨p1, q1⟩ := z26 (impl_ValidProfile_eq (as := as) (ls := ls) (ds := ds) (by omega) (by omega))
  obtain ⟨g1, _, _, g2, g3, g4, g5, g6, g7⟩ := zmt rfl (impl_cut_loop hv)
  obtain ⟨k0, k1, k2, k3, k4, k5, k6⟩ := znu (show z65 as.length as ls.length ls ds.length ds 3204448256 1056964608 = some (as.length, as.length, as.length, as, ls, ds) by
    unfold z65 zdp
    simp only [g1, g2, g3, g4, g5, g6, g7, grd_true])
  have pl : pF ls 0 (muN as.length 1) = ls := by rw [← c3]; exact pF_all _
  have pd : pF ds 0 (muN as.length 1) = ds := by rw [← c4]; exact pF_all _
  have p1' := p1
  have q1' := q1
  rw [c3, c4] at p1' q1'
  unfold z2e z6a
  simp only [pF_all, p1, q1, hv, k0, k1, k2, k3, k4, k5, k6, pl, pd, p1', q1', grd_true, bnot_true, br_false]
theorem impl_contains {as : List Nat} {i : Nat} (hl : as.length ≤ 24) (hi : i < as.length) (hf : finW .f32 (as.getD i 0) = true) : z38 as.length as (as.getD i 0) = some true := by
  have hself : fcmp .eql .f32 (as.getD i 0) (as.getD i 0) = true := by rw [(fcmp_vl hf hf).1]; simp
  rcases scan_first (L := z0w as.length (as.getD i 0) (Int.ofNat as.length) as) (len := as.length) (fun j => !fcmp .eql .f32 (as.getD i 0) (as.getD j 0)) (g := fun j => Int.ofNat j) (e := (Int.ofNat as.length, false))
    (fun n j hj => by
      rw [z9g]; unfold z1w
      rw [ltN_t hj, okIx_t hj, ix1, addI1 (by omega)]
      simp only [gF, br_true, grd_true]
      cases fcmp .eql .f32 (as.getD i 0) (as.getD j 0) <;> rfl)
    (fun n => by rw [z9g]; unfold z1w; rw [ltN_f (Nat.le_refl _)]; rfl) as.length 0 big (by omega) (big_gt (by omega)) with ⟨h1, h2⟩ | ⟨j, _, h2, h3, h4, h5⟩
  · have := h1 i (Nat.zero_le _) hi
    rw [hself] at this; cases this
  · obtain ⟨g1, g2, g3⟩ := zfr rfl h5
    obtain ⟨k1, k2⟩ := zhn (show z4d as.length as (as.getD i 0) = some (Int.ofNat j) by
      unfold z4d z4b
      show grd (z4g as.length (as.getD i 0) (Int.ofNat as.length) as (Int.ofNat 0)) (br (z45 as.length (as.getD i 0) (Int.ofNat as.length) as (Int.ofNat 0)) (some (z3m as.length (as.getD i 0) (Int.ofNat as.length) as (Int.ofNat 0))) _) = _
      rw [g1, g2, g3]; rfl)
    unfold z38 z36
    simp only [pF_all, k1, k2, grd_true]
    rw [show leI 0 (Int.ofNat j) = true from decide_eq_true (by simp)]
theorem impl_AddKnot_has {as ls ds : List Nat} {i : Nat} (hv : validProfB as ls ds = true) (hi : i < as.length) : z5j as.length as ls.length ls ds.length ds (as.getD i 0) 0 0 = some ([], [], []) := by
  obtain ⟨c1, c2, c3, c4⟩ := validProfB_len hv
  obtain ⟨p1, q1⟩ := z26 (impl_ValidProfile_eq (as := as) (ls := ls) (ds := ds) (by omega) (by omega))
  have hf := (prof_num hv hi).1
  rw [finB_eq] at hf
  obtain ⟨p2, q2⟩ := zg1 (impl_contains c2 hi hf)
  unfold z5j z8r
  simp only [pF_all, p1, q1, hv, p2, q2, grd_true, bnot_true, br_false, br_true]
theorem impl_WrapAngle_eq {x : Nat} (hx : finB x = true) : z5g x = some (wrapV x, true) := by
  obtain ⟨p2, q2⟩ := z5f (impl_IsFinite_eq x)
  obtain ⟨p3, q3⟩ := zgy (impl_wrapAngle_eq hx)
  unfold z5g z6q
  simp only [p2, q2, hx, p3, q3, grd_true, bnot_true, br_false]
theorem fmx_vl {k : FloatKind} {x y : Nat} (hx : finW k x = true) (hy : finW k y = true) :
    (finW k (fmx false k x y) = true ∧ vl k (fmx false k x y) ≤ vl k x ∧ vl k (fmx false k x y) ≤ vl k y) ∧ (finW k (fmx true k x y) = true ∧ vl k x ≤ vl k (fmx true k x y) ∧ vl k y ≤ vl k (fmx true k x y)) ∧ (fmx true k x y = x ∨ fmx true k x y = y) := by
  have h := cmp_vl k x y
  unfold fmx
  rw [order_words k (finW_nan hx) (finW_nan hy), ← h, cmp_int]
  rcases Int.lt_trichotomy (vl k x) (vl k y) with g | g | g
  · rw [if_pos g]
    exact ⟨⟨hx, Int.le_refl _, by simp; omega⟩, ⟨hy, by simp; omega, by simp⟩, .inr rfl⟩
  · rw [if_neg (by omega), if_pos g]
    simp only
    cases (k.decode x).neg
    · exact ⟨⟨hy, by simp; omega, by simp⟩, ⟨hx, by simp, by simp; omega⟩, .inl rfl⟩
    · exact ⟨⟨hx, by simp, by simp; omega⟩, ⟨hy, by simp; omega, by simp⟩, .inr rfl⟩
  · rw [if_neg (by omega), if_neg (by omega)]
    exact ⟨⟨hy, by simp; omega, by simp⟩, ⟨hx, by simp, by simp; omega⟩, .inl rfl⟩
theorem low_loop {n : Nat} {ls : List Nat} (hl : ls.length = n) (h24 : n ≤ 24) (hf : ∀ j, j < n → finW .f32 (ls.getD j 0) = true) : ∀ d i low high m, i + d = n → d < m → 1 ≤ i → finW .f32 low = true → finW .f32 high = true → (∀ j, j < i → vl .f32 low ≤ vl .f32 (ls.getD j 0) ∧ vl .f32 (ls.getD j 0) ≤ vl .f32 high) →
    ∃ lo hi, z18 (Int.ofNat n) n ls m low high (Int.ofNat i) = some (lo, hi, Int.ofNat n, false) ∧ finW .f32 lo = true ∧ finW .f32 hi = true ∧ ∀ j, j < n → vl .f32 lo ≤ vl .f32 (ls.getD j 0) ∧ vl .f32 (ls.getD j 0) ≤ vl .f32 hi
  | 0, i, low, high, m, h1, h2, h3, h4, h5, h6 => by
    obtain ⟨m, rfl⟩ : ∃ k, m = k + 1 := ⟨m - 1, by omega⟩
    obtain rfl : i = n := by omega
    refine ⟨low, high, ?_, h4, h5, h6⟩
    rw [zcj]; unfold z2p; rw [ltN_f (Nat.le_refl _)]; rfl
  | d + 1, i, low, high, m, h1, h2, h3, h4, h5, h6 => by
    obtain ⟨m, rfl⟩ : ∃ k, m = k + 1 := ⟨m - 1, by omega⟩
    have hi : i < n := by omega
    obtain ⟨a1, a2, a3⟩ := (fmx_vl h4 (hf i hi)).1
    obtain ⟨b1, b2, b3⟩ := (fmx_vl h5 (hf i hi)).2.1
    obtain ⟨lo, hi', e, g⟩ := low_loop hl h24 hf d (i + 1) (fmx false .f32 low (ls.getD i 0)) (fmx true .f32 high (ls.getD i 0)) m (by omega) (by omega) (by omega) a1 b1 (fun j hj => by
      by_cases hji : j = i
      · subst hji; exact ⟨a3, b3⟩
      · have := h6 j (by omega)
        exact ⟨Int.le_trans a2 this.1, Int.le_trans this.2 b2⟩)
    refine ⟨lo, hi', ?_, g⟩
    rw [zcj]; unfold z2p
    rw [ltN_t hi, okIx_t hi, ix1, addI1 (by omega)]
    simp only [br_true, grd_true, gF]
    exact e
theorem pI_all (xs : List Int) : pI xs 0 (muN xs.length 1) = xs := by simp [pI, muN]
theorem byte_of {xs : List Int} (k : ∀ x ∈ xs, bdI .u8 x) : byteL xs := fun x hx => by
  have := k x hx
  have h1 : IntKind.u8.min = 0 := rfl
  have h2 : IntKind.u8.max = 255 := rfl
  unfold bdI at this
  rw [h1, h2] at this
  exact this
theorem plates_can (m : Fin 8) : ((listOf (plateA (m.val + 2)) (m.val + 2)).all fun x => decide (x < 2 ^ 32 ∧ cn .f32 x = x)) = true ∧ ((listOf (plateL (m.val + 2)) (m.val + 2)).all fun x => decide (x < 2 ^ 32 ∧ cn .f32 x = x)) = true ∧ ((listOf (plateD (m.val + 2)) (m.val + 2)).all fun x => decide (x < 2 ^ 32 ∧ cn .f32 x = x)) = true := by revert m; decide +kernel
theorem x32_can (u : Fin 33) : x32 ((u : Int) - 16) < 2 ^ 32 ∧ cn .f32 (x32 ((u : Int) - 16)) = x32 ((u : Int) - 16) := by revert u; decide +kernel
theorem l8_can (u : Fin 33) : l8 ((u : Int) - 16) < 2 ^ 32 ∧ cn .f32 (l8 ((u : Int) - 16)) = l8 ((u : Int) - 16) := by revert u; decide +kernel
theorem all_can {xs : List Nat} (h : (xs.all fun x => decide (x < 2 ^ 32 ∧ cn .f32 x = x)) = true) : ∀ x ∈ xs, canW .f32 x := fun x hx => by
  have := List.all_eq_true.1 h x hx
  simp only [decide_eq_true_eq] at this
  exact this
theorem drawn_can {as ls ds : List Nat} (h : DrawnP as ls ds) : (∀ x ∈ as, canW .f32 x) ∧ (∀ x ∈ ls, canW .f32 x) ∧ (∀ x ∈ ds, canW .f32 x) := by
  rcases h with ⟨m, h1, h2, rfl, rfl, rfl⟩ | ⟨u, us, vs, ws, hu1, hu2, hc, hn1, hn2, hv, hw, hvs, hws, rfl, rfl, rfl⟩
  · have := plates_can ⟨m - 2, by omega⟩
    simp only at this
    rw [show m - 2 + 2 = m by omega] at this
    exact ⟨all_can this.1, all_can this.2.1, all_can this.2.2⟩
  · refine ⟨fun x hx => ?_, fun x hx => ?_, fun x hx => ?_⟩
    · obtain ⟨v, hv', rfl⟩ := List.mem_map.1 hx
      obtain ⟨j, hj, rfl⟩ := List.getElem_of_mem hv'
      have := climb_get hc j hj
      rw [List.getD_eq_getElem?_getD, List.getElem?_eq_getElem hj] at this
      simp only [Option.getD_some] at this
      have g := x32_can ⟨(us[j] + 16).toNat, by omega⟩
      simp only at g
      rw [show (((us[j] + 16).toNat : Int)) - 16 = us[j] by omega] at g
      exact g
    · obtain ⟨v, hv', rfl⟩ := List.mem_map.1 hx
      have := hvs v hv'
      have g := l8_can ⟨(v + 16).toNat, by omega⟩
      simp only at g
      rw [show (((v + 16).toNat : Int)) - 16 = v by omega] at g
      exact g
    · obtain ⟨v, hv', rfl⟩ := List.mem_map.1 hx
      have := hws v hv'
      have g := x32_can ⟨(v + 16).toNat, by omega⟩
      simp only at g
      rw [show (((v + 16).toNat : Int)) - 16 = v by omega] at g
      exact g
theorem down_ok {x lo e : Nat} (hx : finW .f64 x = true) (hl : finW .f64 lo = true) (he : finW .f64 e = true) (h0 : 0 ≤ vl .f64 e) (h : vl .f64 lo ≤ vl .f64 x) : fcmp .lss .f64 x (fop .sub .f64 lo e) = false := by
  have hn : nanB .f64 (fop .sub .f64 lo e) = false := by rw [sub_word hl he]; exact nanB_word _ _ (rnd_inf _ _ _)
  rw [(fcmp_num .f64 (finW_nan hx) hn).2.2.1]
  have h1 : srung FloatKind.f64.format (fop .sub .f64 lo e) ≤ srung FloatKind.f64.format lo := by rw [sub_word hl he, srung_word _ _ (rnd_inf _ _ _)]; exact round_le hl (by omega)
  have h2 := vl_le.1 h
  exact decide_eq_false (by omega)
theorem up_ok {x hi e : Nat} (hx : finW .f64 x = true) (hl : finW .f64 hi = true) (he : finW .f64 e = true) (h0 : 0 ≤ vl .f64 e) (h : vl .f64 x ≤ vl .f64 hi) : fcmp .gtr .f64 x (fop .add .f64 hi e) = false := by
  have hn : nanB .f64 (fop .add .f64 hi e) = false := by rw [add_word hl he]; exact nanB_word _ _ (rnd_inf _ _ _)
  rw [(fcmp_num .f64 (finW_nan hx) hn).2.2.2.2.1]
  have h1 : srung FloatKind.f64.format hi ≤ srung FloatKind.f64.format (fop .add .f64 hi e) := sum_ge hl he hl (by omega)
  have h2 := vl_le.1 h
  exact decide_eq_false (by omega)
theorem eps_ok : finW .f64 4562254508917369340 = true ∧ 0 ≤ vl .f64 4562254508917369340 := by decide +kernel
theorem gap_max {a b : Nat} (ha : finW .f64 a = true) (hb : finW .f64 b = true) (h : (vl .f64 a - vl .f64 b).natAbs ≤ 2 ^ 1060) :
    ∃ v, zd7 a b = some v ∧ fcmp .gtr .f64 v 4562254508917369340 = false := by
  obtain ⟨f1, g1⟩ := gap64 ha hb h
  obtain ⟨f2, g2⟩ := gap64 hb ha (by omega)
  refine ⟨_, rfl, ?_⟩
  rcases (fmx_vl f1 f2).2.2 with e | e
  · rw [e]; exact g1
  · rw [e]; exact g2
theorem r8At_ok {ys : List Int} {m : Nat} (hy : byteL ys) {i n : Int} (hi : 0 ≤ i) (hi2 : i ≤ 1000) (hn : 2 ≤ n) : ∃ v, zak m ys i n = true ∧ zbm m ys i n = v ∧ 0 ≤ v ∧ v < n := by
  have key : ∃ v, zct m ys i n = some v ∧ 0 ≤ v ∧ v < n := by
    unfold zct zcp
    rw [show leI n 1 = false from decide_eq_false (by omega), br_false]
    cases hlt : leI (Int.ofNat m) i
    · have hlt' := of_decide_eq_false hlt
      rw [br_false, show okIx i m = true from decide_eq_true ⟨hi, by simp at hlt'; omega⟩, show okNz n = true by simp; omega]
      have hb := i64_byte (byteL_get hy (ixO 0 i 1))
      exact ⟨_, rfl, pick_in hb (by omega)⟩
    · exact ⟨0, rfl, by omega, by omega⟩
  obtain ⟨v, h1, h2, h3⟩ := key
  obtain ⟨p, q⟩ := znr h1
  exact ⟨v, p, q, h2, h3⟩
theorem neg_neg_eq {x : Nat} (h : finW .f32 x = true) : fcmp .neq .f32 (fneg .f32 (fneg .f32 x)) x = false := by
  obtain ⟨f1, v1⟩ := neg_vl h
  obtain ⟨f2, v2⟩ := neg_vl f1
  rw [(fcmp_vl f2 h).2.1, v2, v1]
  simp
theorem sub_self0 {x : Nat} (h : finW .f32 x = true) : fop .sub .f32 x x = 0 := by
  rw [sub_word h h, Int.sub_self]
  unfold sgn0
  rw [if_pos rfl, Int.natAbs_zero, rnd_zero, Bool.and_not_self]
  rfl
theorem mixed_self {x : Nat} (h : finW .f32 x = true) : finW .f32 (mixed x x 1056964608) = true ∧ vl .f32 (mixed x x 1056964608) = vl .f32 x := by
  unfold mixed
  rw [sub_self0 h, show fop .mul .f32 1056964608 0 = fop .mul .f32 0 0 by decide +kernel]
  exact mix_zero h (by decide +kernel)
theorem eqAll_self {as : List Nat} (h : ∀ j, j < as.length → finW .f32 (as.getD j 0) = true) : eqAll as as = true := by
  unfold eqAll
  rw [decide_eq_true rfl, Bool.true_and]
  refine range_all.2 fun j hj => ?_
  rw [(fcmp_vl (h j hj) (h j hj)).2.1]
  simp
theorem mix_valid {as ls ds : List Nat} (hv : validProfB as ls ds = true) : validProfB as (mixL ls ls 1056964608) (mixL ds ds 1056964608) = true := by
  obtain ⟨c1, c2, c3, c4⟩ := validProfB_len hv
  refine scaled_valid hv (by rw [mixL_length, c3]) (by rw [mixL_length, c4]) (fun j hj => ?_) (fun j hj => ?_)
  · rw [mixL_get (by omega), finB_eq]
    exact (mixed_self (by rw [← finB_eq]; exact (prof_num hv hj).2.1)).1
  · have hd := (prof_num hv hj).2.2
    unfold leastB at hd
    rw [Bool.and_eq_true, finB_eq] at hd
    obtain ⟨m1, m2⟩ := mixed_self hd.1
    have h0 : finW .f32 0 = true := by decide +kernel
    rw [mixL_get (by omega)]
    unfold leastB
    rw [finB_eq, m1, (fcmp_vl m1 h0).2.2.2.2.2, m2, Bool.true_and]
    have := hd.2
    rw [(fcmp_vl hd.1 h0).2.2.2.2.2] at this
    exact this
theorem MixSelf_eq {as ls ds : List Nat} (hv : validProfB as ls ds = true) : z1x as.length as ls.length ls ds.length ds as.length as ls.length ls ds.length ds 1056964608 = some (as.length, ls.length, ds.length, true, as, mixL ls ls 1056964608, mixL ds ds 1056964608) := by
  obtain ⟨c1, c2, c3, c4⟩ := validProfB_len hv
  rw [impl_MixProfiles_eq _ (by omega) (by omega) (by omega) (by omega) (by omega)]
  unfold mixR
  rw [hv, if_pos rfl, if_pos rfl, show finB 1056964608 = true by decide +kernel, if_pos rfl, eqAll_self (fun j hj => by rw [← finB_eq]; exact (prof_num hv hj).1), if_pos rfl, mix_valid hv, if_pos rfl]
theorem back_loop {as ls ds : List Nat} {n : Nat} (hv : validProfB as ls ds = true) (hn : as.length = n) :
    z10 (Int.ofNat n) n n as ls n n (mirA (mirA as)) (mirA (mirA ls)) n (mixL ls ls 1056964608) big 0 = some (.inr (Int.ofNat n, false)) := by
  obtain ⟨c1, c2, c3, c4⟩ := validProfB_len hv
  refine runs (L := fun m i => z10 (Int.ofNat n) n n as ls n n (mirA (mirA as)) (mirA (mirA ls)) n (mixL ls ls 1056964608) m i) (len := n) (fun m i hi => ?_) (fun m => ?_) (by omega)
  · obtain ⟨f1, f2, f3⟩ := prof_num hv (show i < as.length by omega)
    rw [finB_eq] at f1 f2
    have e1 : (mirA (mirA as)).getD i 0 = fneg .f32 (fneg .f32 (as.getD i 0)) := by
      rw [mirA_get (by rw [mirA_length]; omega), mirA_length, mirA_get (by omega), show as.length - 1 - (as.length - 1 - i) = i by omega]
    have e2 : (mirA (mirA ls)).getD i 0 = fneg .f32 (fneg .f32 (ls.getD i 0)) := by
      rw [mirA_get (by rw [mirA_length]; omega), mirA_length, mirA_get (by omega), show ls.length - 1 - (ls.length - 1 - i) = i by omega]
    obtain ⟨m1, m2⟩ := mixed_self f2
    have e3 : fcmp .neq .f32 (mixed (ls.getD i 0) (ls.getD i 0) 1056964608) (ls.getD i 0) = false := by rw [(fcmp_vl m1 f2).2.1, m2]; simp
    show z10 _ _ _ _ _ _ _ _ _ _ _ (m + 1) (Int.ofNat i) = _
    rw [zce]; unfold z2r
    rw [ltN_t hi, okIx_t hi, ix1, addI1 (by omega)]
    simp only [br_true, grd_true, gF, e1, e2, mixL_get (show i < ls.length by omega), neg_neg_eq f1, neg_neg_eq f2, e3, br_false]
  · show z10 _ _ _ _ _ _ _ _ _ _ _ (m + 1) (Int.ofNat n) = _
    rw [zce]; unfold z2r
    rw [ltN_f (Nat.le_refl _)]; rfl
theorem plain_FnProfiles {xs ys : List Int} (kx : ∀ x ∈ xs, bdI .u8 x) (mx : xs.length ≤ maxLen) (ky : ∀ x ∈ ys, bdI .u8 x) (my : ys.length ≤ maxLen) : z69 xs.length xs ys.length ys = some true := by
  have hx := byte_of kx
  have hy := byte_of ky
  obtain ⟨as, ls, ds, hD, h9, hF⟩ := R8_draw (n := xs.length) hx
  obtain ⟨ca, cl, cd⟩ := drawn_can hD
  have hg := drawn_good hD
  have hv := hg.valid
  obtain ⟨c1, c2, c3, c4⟩ := validProfB_len hv
  have hS := impl_ScaleProfile_eq hv hg.dvalid
  have hM := impl_MirrorProfile_eq hv
  have hmv := mirror_valid hv
  have hM2 := impl_MirrorProfile_eq hmv
  have hMix := MixSelf_eq hv
  have hC := impl_CutProfile_eq hv
  have hSame := impl_SameProfile_eq ca cl cd ca cl cd (by omega) (by omega) (by omega)
  rw [show sameProfB as ls ds as ls ds = true by simp [sameProfB]] at hSame
  have hVal := impl_ValidProfile_eq (as := as) (ls := ls) (ds := ds) (by omega) (by omega)
  rw [hv] at hVal
  obtain ⟨i, pi, qi, i0, i1⟩ := r8At_ok (m := ys.length) hy (i := 0) (n := Int.ofNat as.length) (by omega) (by omega) (by simp; omega)
  obtain ⟨q, pq, qq, q0, q1⟩ := r8At_ok (m := ys.length) hy (i := 1) (n := 256) (by omega) (by omega) (by omega)
  obtain ⟨j, rfl⟩ : ∃ j : Nat, i = Int.ofNat j := ⟨i.toNat, by simp; omega⟩
  have hj : j < as.length := by simp at i1; omega
  have hix : okIx (Int.ofNat j) as.length = true := okIx_t hj
  obtain ⟨fa, _, _⟩ := prof_num hv hj
  obtain ⟨kl1, kl2⟩ := hg.kl j hj
  obtain ⟨kd1, kd2⟩ := hg.kd j hj
  have hLk := LiftAt_any hv fa kl1
  have hDk := DragAt_any hv fa kd1
  have hAdd := impl_AddKnot_has hv hj
  -- the angle
  have eq0 : fop .quo .f32 (fOI .f32 (subI .i64 q 128)) 1115684864 = t64 (q - 128) := by
    have : subI .i64 q 128 = q - 128 := wrap64 (by omega) (by omega)
    rw [this]; rfl
  have w1 := wrap_q ⟨q.toNat, by omega⟩
  have w2 := wrap_q2 ⟨q.toNat, by omega⟩
  have w3 := wrap_qn ⟨q.toNat, by omega⟩
  simp only at w1 w2 w3
  rw [show ((q.toNat : Int)) = q by omega] at w1 w2 w3
  have r1 : -32 ≤ wr (q - 128) := by unfold wr; omega
  have r2 : wr (q - 128) ≤ 31 := by unfold wr; omega
  generalize hr : wr (q - 128) = r at *
  have w3' : finB (fneg .f32 (t64 (q - 128))) = true ∧ (wrapV (fneg .f32 (t64 (q - 128))) = s64 (mq r) ∨ wrapV (fneg .f32 (t64 (q - 128))) = t64 (mq r)) := by
    have e : wrN (q - 128) = mq r := by unfold wrN mq; rw [hr]
    rw [e] at w3
    rcases w3 with ⟨g1, g2⟩ | ⟨g1, g2⟩
    · exact ⟨g1, .inl g2⟩
    · exact ⟨g1, .inr g2⟩
  obtain ⟨lf, ⟨a, ha, la⟩, ⟨b, hb, lb⟩⟩ := hg.lift r r1 r2
  obtain ⟨df, d0⟩ := hg.drag r r1 r2
  obtain ⟨mf, mg'⟩ := hg.mir r _ r1 r2 w3'.2
  have htw := hg.twice r r1 r2
  have hLx := LiftAt_any hv w1.1 (by rw [w1.2, finB_eq]; exact lf)
  have hLy := LiftAt_any hv w2.1 (by rw [w2.2, finB_eq]; exact lf)
  have hDx := DragAt_any hv w1.1 (by rw [w1.2, finB_eq]; exact df)
  have hLm := LiftAt_any hmv w3'.1 (by rw [finB_eq]; exact mf)
  have hLt := LiftAt_any hg.dvalid w1.1 (by rw [w1.2, finB_eq]; exact htw.2.1)
  have hW := impl_WrapAngle_eq w1.1
  rw [w1.2] at hLx hDx hLt hW
  rw [w2.2] at hLy
  have tq := turned_q ⟨(r + 32).toNat, by omega⟩
  simp only at tq
  rw [show (((r + 32).toNat : Int)) - 32 = r by omega] at tq
  -- least and greatest
  have hfl : ∀ k, k < as.length → finW .f32 (ls.getD k 0) = true := fun k hk => by rw [← finB_eq]; exact (prof_num hv hk).2.1
  obtain ⟨lo, hi, hlh, flo, fhi, hb'⟩ := low_loop c3 c2 hfl (as.length - 1) 1 (ls.getD 0 0) (ls.getD 0 0) big (by omega) (big_gt (by omega)) (by omega) (hfl 0 (by omega)) (hfl 0 (by omega)) (fun k hk => by
    obtain rfl : k = 0 := by omega
    exact ⟨Int.le_refl _, Int.le_refl _⟩)
  obtain ⟨o1, o2, o3, _, _⟩ := laws_FnProfiles_l13_of0 rfl (show z18 (Int.ofNat as.length) as.length ls big (ls.getD 0 0) (ls.getD 0 0) 1 = some _ from hlh)
  obtain ⟨uf, uv⟩ := up_vl lf
  obtain ⟨lof, lov⟩ := up_vl flo
  obtain ⟨hif, hiv⟩ := up_vl fhi
  have bnd : vl .f32 lo ≤ vl .f32 (atW as ls (t64 r)) ∧ vl .f32 (atW as ls (t64 r)) ≤ vl .f32 hi := ⟨Int.le_trans (hb' a ha).1 la, Int.le_trans lb (hb' b hb).2⟩
  have pw : (0 : Int) ≤ 2 ^ 925 := by decide
  have z1 : fcmp .lss .f64 (fcvV .f32 .f64 (atW as ls (t64 r))) (fop .sub .f64 (fcvV .f32 .f64 lo) 4562254508917369340) = false := down_ok uf lof eps_ok.1 eps_ok.2 (by rw [lov, uv]; exact Int.mul_le_mul_of_nonneg_right bnd.1 pw)
  have z2 : fcmp .gtr .f64 (fcvV .f32 .f64 (atW as ls (t64 r))) (fop .add .f64 (fcvV .f32 .f64 hi) 4562254508917369340) = false := up_ok uf hif eps_ok.1 eps_ok.2 (by rw [hiv, uv]; exact Int.mul_le_mul_of_nonneg_right bnd.2 pw)
  have z3 : fcmp .neq .f32 (atW as ls (t64 r)) (atW as ls (t64 r)) = false := by rw [(fcmp_vl lf lf).2.1]; simp
  have z4 : fcmp .lss .f64 (fcvV .f32 .f64 (atW as ds (t64 r))) 13785626545772145148 = false := by
    obtain ⟨f1, v1⟩ := up_vl df
    have fe : finW .f64 13785626545772145148 = true ∧ vl .f64 13785626545772145148 < 0 := by decide +kernel
    rw [(fcmp_vl f1 fe.1).2.2.1, v1]
    have : 0 ≤ vl .f32 (atW as ds (t64 r)) * 2 ^ 925 := Int.mul_nonneg d0 pw
    exact decide_eq_false (by omega)
  -- the mirror's gap
  generalize hT : wrapV (fneg .f32 (t64 (q - 128))) = T at *
  obtain ⟨n1, n2⟩ := neg_vl uf
  obtain ⟨mu, mv⟩ := up_vl mf
  obtain ⟨gv, gF1, gF2⟩ := gap_max mu n1 (by
    rw [mv, n2, uv]
    have e : vl .f32 (atW (mirA as) (mirA ls) T) * 2 ^ 925 - -(vl .f32 (atW as ls (t64 r)) * 2 ^ 925) = (vl .f32 (atW (mirA as) (mirA ls) T) + vl .f32 (atW as ls (t64 r))) * 2 ^ 925 := by
      rw [Int.add_mul]; omega
    rw [e, Int.natAbs_mul]
    exact Nat.le_trans (Nat.mul_le_mul_right _ mg') (by decide +kernel))
  have z5 := dbl_eq htw
  obtain ⟨b1, b2, _⟩ := laws_FnProfiles_l33_of1 rfl (back_loop (as := as) (ls := ls) (ds := ds) hv rfl)
  have m1 := mirA_length as
  have m2 := mirA_length ls
  have m3 : ds.reverse.length = ds.length := List.length_reverse
  have m4 := mirA_length (mirA as)
  have m5 := mirA_length (mirA ls)
  have m6 := dblL_length ls
  have m7 := dblL_length ds
  have m8 := mixL_length ls ls 1056964608
  simp only [m1, m2, m3, m6, m7, c3, c4] at hF hS hM hM2 hMix hC hSame hVal hLk hDk hAdd hLx hLy hDx hLm hLt
  obtain ⟨B0, B1, B2, B3, B4, B5, B6⟩ := zlw hF
  obtain ⟨L0, L1⟩ := zn6 (show z9o xs.length xs ys.length ys = some (ltI 48 (Int.ofNat xs.length) || ltI 48 (Int.ofNat ys.length)) by
    unfold z9o z9q
    cases ltI 48 (Int.ofNat xs.length) <;> rfl)
  obtain ⟨S0, S1, S2, S3, S4, S5, S6, S7⟩ := zkd hS
  obtain ⟨M0, M1, M2, M3, M4, M5, M6, M7⟩ := zb4 hM
  obtain ⟨N0, N1, N2, N3, N4, N5, N6, N7⟩ := zb4 hM2
  obtain ⟨X0, X1, X2, X3, X4, X5, X6, X7⟩ := zkn hMix
  obtain ⟨C0, C1, C2, C3, C4, C5, C6, C7⟩ := zlc hC
  obtain ⟨E0, E1⟩ := zkt hSame
  obtain ⟨V0, V1⟩ := z26 hVal
  obtain ⟨LK0, LK1, LK2⟩ := zb7 hLk
  obtain ⟨DK0, DK1, DK2⟩ := zjl hDk
  obtain ⟨LX0, LX1, LX2⟩ := zb7 hLx
  obtain ⟨LY0, LY1, LY2⟩ := zb7 hLy
  obtain ⟨DX0, DX1, DX2⟩ := zjl hDx
  obtain ⟨LM0, LM1, LM2⟩ := zb7 hLm
  obtain ⟨LT0, LT1, LT2⟩ := zb7 hLt
  obtain ⟨W0, W1, W2⟩ := zlq hW
  obtain ⟨A0, _⟩ := zmu hAdd
  obtain ⟨G0, G1⟩ := znh gF1
  have p1 : pF as 0 (muN as.length 1) = as := pF_all _
  have p2 : pF ls 0 (muN as.length 1) = ls := by rw [← c3]; exact pF_all _
  have p3 : pF ds 0 (muN as.length 1) = ds := by rw [← c4]; exact pF_all _
  have p4 : pF (mirA as) 0 (muN as.length 1) = mirA as := by rw [← m1]; exact pF_all _
  have p5 : pF (mirA ls) 0 (muN as.length 1) = mirA ls := by rw [← c3, ← m2]; exact pF_all _
  have p6 : pF ds.reverse 0 (muN as.length 1) = ds.reverse := by rw [← c4, ← m3]; exact pF_all _
  have p7 : pF (dblL ls) 0 (muN as.length 1) = dblL ls := by rw [← c3, ← m6]; exact pF_all _
  have p8 : pF (dblL ds) 0 (muN as.length 1) = dblL ds := by rw [← c4, ← m7]; exact pF_all _
  have o0 : okIx 0 as.length = true := okIx_t (i := 0) (by omega)
  have oj : ixO 0 (Int.ofNat j) 1 = j := ix1 j
  have oz : ixO 0 0 1 = 0 := rfl
  unfold z69 z6e
  simp only [laws_FnProfiles_c0, laws_FnProfiles_c1, laws_FnProfiles_c2, laws_FnProfiles_c3, laws_FnProfiles_c4, laws_FnProfiles_c5, laws_FnProfiles_c6, laws_FnProfiles_c7, laws_FnProfiles_c8, laws_FnProfiles_c9, laws_FnProfiles_c10, laws_FnProfiles_c11, laws_FnProfiles_c12, laws_FnProfiles_c13, laws_FnProfiles_c14, laws_FnProfiles_c15, laws_FnProfiles_c16, laws_FnProfiles_c17, laws_FnProfiles_c18, laws_FnProfiles_c19, laws_FnProfiles_c20, laws_FnProfiles_c21, laws_FnProfiles_c22, laws_FnProfiles_c23, laws_FnProfiles_c24, laws_FnProfiles_c25, laws_FnProfiles_c26, laws_FnProfiles_c27, laws_FnProfiles_c28, laws_FnProfiles_c29, laws_FnProfiles_c30, laws_FnProfiles_c31, laws_FnProfiles_c32, laws_FnProfiles_c33, laws_FnProfiles_c34, laws_FnProfiles_c35, laws_FnProfiles_c36, laws_FnProfiles_c37, laws_FnProfiles_c38, laws_FnProfiles_c39, laws_FnProfiles_c40, laws_FnProfiles_c41, pI_all, L0, L1, grd_true]
  cases (ltI 48 (Int.ofNat xs.length) || ltI 48 (Int.ofNat ys.length))
  · simp only [B0, B1, B2, B3, B4, B5, B6, p1, p2, p3, pi, qi, pq, qq, hix, o0, oj, oz, gF, eq0, LK0, LK1, LK2, DK0, DK1, DK2, V0, V1, grd_true, bnot_true, br_false]
    simp only [o1, o2, o3, LX0, LX1, LX2, LY0, LY1, LY2, DX0, DX1, DX2, W0, W1, W2, z1, z2, z3, z4, tq.1, tq.2, M0, M1, M2, M3, M4, M5, M6, M7, p1, p2, p3, p4, p5, p6, N0, N1, N2, N3, N4, N5, N6, N7, LM0, LM1, LM2, X0, X1, X2, X3, X4, X5, X6, X7, S0, S1, S2, S3, S4, S5, S6, S7, p7, p8, LT0, LT1, LT2, neI_self, G0, G1, gF2, z5, b1, b2, C0, C1, C2, C3, C4, C5, C6, C7, E0, E1, A0, grd_true, bnot_true, bnot_false, br_true, br_false]
    cases hl : fcmp .lss .f32 (as.getD j 0) 1056964608
    · simp only [br_false]
    · simp only [kl2 hl, kd2 hl, br_true, br_false, grd_true]
  · rfl
end Go.Rf
