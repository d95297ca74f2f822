/-
  Plain laws.
-/
import Derived.Test.YtdhmognknjpemaaRotorsL0
set_option linter.unusedVariables false
set_option linter.unusedSimpArgs false
set_option maxRecDepth 100000
set_option maxHeartbeats 4000000
namespace Go.Rf
open Go
def halfS (r : Nat) : Nat :=
  if fcmp .gtr .f64 r 4598175219545276416 = true then fop .mul .f64 (fop .mul .f64 (fop .sub .f64 4602678819172646912 r) 4618760256179416344) (poly (fop .mul .f64 (fop .mul .f64 (fop .sub .f64 4602678819172646912 r) 4618760256179416344) (fop .mul .f64 (fop .sub .f64 4602678819172646912 r) 4618760256179416344)))
  else fop .mul .f64 (fop .mul .f64 r 4618760256179416344) (poly (fop .mul .f64 (fop .mul .f64 r 4618760256179416344) (fop .mul .f64 r 4618760256179416344)))
def sineA (q : Nat) : Nat := if fcmp .geq .f64 q 4602678819172646912 = true then fneg .f64 (halfS (fop .sub .f64 q 4602678819172646912)) else halfS q
noncomputable def zz (x : Nat) : Nat := fop .sub .f64 x (fOI .f64 (f2iV .f64 x .i64))
noncomputable def qq (x : Nat) : Nat := if fcmp .lss .f64 (zz x) 0 = true then fop .add .f64 (zz x) 4607182418800017408 else zz x
noncomputable def sineV (x : Nat) : Nat := sineA (qq x)
def smallB (x : Nat) : Bool := decide (rg FloatKind.f64.format x < 4841369599423283200)
theorem zmv {x : Nat} (h : smallB x = true) : finW .f64 x = true := z2b (Nat.le_of_lt (of_decide_eq_true h)) (by decide +kernel)
theorem zwl {x : Nat} (h : smallB x = true) : mg .f64 x / 2 ^ 1074 ≤ 4503599627370496 := by
  have h1 : mg .f64 x ≤ rungV FloatKind.f64.format 4841369599423283200 := mg_le (Nat.le_of_lt (of_decide_eq_true h))
  have h2 : rungV FloatKind.f64.format 4841369599423283200 ≤ 4503599627370496 * 2 ^ 1074 := by decide +kernel
  exact ydj _ _ 1074 (Nat.le_trans h1 h2)
theorem y2b {x : Nat} (h : smallB x = true) : f2iB .f64 x .i64 = true ∧ f2iV .f64 x .i64 = sg (nn .f64 x) (mg .f64 x / 2 ^ 1074) := by
  have hw := zwl h
  have hi := y0f (zmv h) (N := 1074) (by decide +kernel)
  generalize mg .f64 x / 2 ^ 1074 = w at hw hi ⊢
  have hi : (FloatKind.f64.decode x).integral .zero = .number (nn .f64 x) w 0 := hi
  have e : floatToIntVal .f64 x .i64 = some (sg (nn .f64 x) w) := by
    unfold floatToIntVal Ieee.Datum.toInt
    rw [hi]
    simp only [zks, Nat.pow_zero, Nat.mul_one]
    have hmin : IntKind.i64.min = -9223372036854775808 := by decide
    have hmax : IntKind.i64.max = 9223372036854775807 := by decide
    rw [hmin, hmax, if_pos]
    unfold sg
    by_cases hs : nn .f64 x = true
    · rw [if_pos hs]; omega
    · rw [if_neg hs]; omega
  unfold f2iB f2iV
  rw [e, z4u (zmv h)]
  exact ⟨rfl, rfl⟩
theorem zz_rg {x : Nat} (h : smallB x = true) : rg FloatKind.f64.format (zz x) ≤ 4607182418800017408 := by
  have hw := zwl h
  obtain ⟨_, h2⟩ := y2b h
  unfold zz
  rw [h2]
  have hmd := Nat.div_add_mod (mg .f64 x) (2 ^ 1074)
  have hlt := Nat.mod_lt (mg .f64 x) (Nat.two_pow_pos 1074)
  generalize hW : mg .f64 x / 2 ^ 1074 = w at hw hmd ⊢
  obtain ⟨r, r1, r2, r3⟩ := y8n (n := sg (nn .f64 x) w) (by rw [zli]; omega)
  rw [zli] at r3
  show rg FloatKind.f64.format (fop .sub .f64 x (floatOfInt .f64 (sg (nn .f64 x) w))) ≤ _
  rw [r2]
  have hf2 : finW .f64 (FloatKind.f64.format.word (decide (sg (nn .f64 x) w < 0)) r) = true := z2b (by rw [z48 _ _ (Nat.le_of_lt r1)]; exact Nat.le_refl _) r1
  rw [zew (zmv h) hf2, z48 _ _ (z5n _ _ _)]
  refine zdi FloatKind.f64.format (u := 0) (v := 0) (by unfold lp; omega) ?_
  rw [Nat.pow_zero, Nat.mul_one, Nat.mul_one]
  have h1 : rungV FloatKind.f64.format 4607182418800017408 = 2 ^ 1074 := by decide +kernel
  rw [h1]
  have hv : vl .f64 (FloatKind.f64.format.word (decide (sg (nn .f64 x) w < 0)) r) = sg (nn .f64 x) (w * 2 ^ 1074) := by
    unfold vl
    rw [y76 _ _ (Nat.le_of_lt r1), zjt _ _ (Nat.le_of_lt r1), r3]
    generalize (2 : Nat) ^ 1074 = T
    unfold sg
    by_cases hs : nn .f64 x = true
    · rw [if_pos hs, if_pos hs]
      by_cases h0 : w = 0
      · subst h0; simp
      · rw [if_pos (decide_eq_true (by omega))]
    · rw [if_neg hs, if_neg hs, if_neg (by simp)]
  rw [hv]
  unfold vl
  generalize 2 ^ 1074 = T at hmd hlt ⊢
  have hm : mg .f64 x = w * T + mg .f64 x % T := by rw [Nat.mul_comm]; exact hmd.symm
  unfold sg
  by_cases hs : nn .f64 x = true
  · rw [if_pos hs, if_pos hs]; omega
  · rw [if_neg hs, if_neg hs]; omega
theorem y2e {x : Nat} (h : smallB x = true) : zam x = some (qq x) := by
  obtain ⟨_, h2⟩ := y2b h
  have hw := zwl h
  have hi := y0f (zmv h) (N := 1074) (by decide +kernel)
  have hf : fint .zero x = FloatKind.f64.format.nearest (nn .f64 x) (mg .f64 x / 2 ^ 1074) 0 := by
    have hi : (FloatKind.f64.decode x).integral .zero = .number (nn .f64 x) (mg .f64 x / 2 ^ 1074) 0 := hi
    unfold fint
    rw [z4u (zmv h), hi, if_neg (by decide)]
    rfl
  obtain ⟨p, q⟩ := y95 (show zkh x = some (fint .zero x) by
    unfold zkh zk1
    simp only [nanQ, z4u (zmv h), bnot, Bool.not_false, z0w])
  unfold zam zaq
  rw [p, q]
  generalize hW : mg .f64 x / 2 ^ 1074 = w at hw h2 hf
  have hz : zz x = fop .sub .f64 x (if w = 0 then 0 else fint .zero x) ∧ fcmp .eql .f64 (fint .zero x) 0 = decide (w = 0) := by
    by_cases h0 : w = 0
    · rw [if_pos h0, decide_eq_true h0]
      subst h0
      constructor
      · unfold zz
        rw [h2]
        have : sg (nn .f64 x) 0 = 0 := by cases nn .f64 x <;> rfl
        rw [this]
        have : fOI .f64 0 = 0 := by decide +kernel
        rw [this]
      · rw [hf]
        cases nn .f64 x <;> decide +kernel
    · rw [if_neg h0, decide_eq_false h0]
      obtain ⟨r, r1, r2, r3⟩ := y8n (n := sg (nn .f64 x) w) (by rw [zli]; omega)
      have hs : decide (sg (nn .f64 x) w < 0) = nn .f64 x := by
        unfold sg
        cases nn .f64 x
        · exact decide_eq_false (by simp)
        · exact decide_eq_true (by simp; omega)
      have hr : rnd FloatKind.f64.format w 0 = r := by
        have e := yav .f64 (sg (nn .f64 x) w)
        rw [r2, zli] at e
        have e2 := congrArg (rg FloatKind.f64.format) e
        rw [z48 _ _ (Nat.le_of_lt r1), z48 _ _ (z5n _ _ _)] at e2
        exact e2.symm
      have hfi : fint .zero x = FloatKind.f64.format.word (nn .f64 x) r := by rw [hf, (z60 _ _ _ _).1, hr]
      have hr0 : r ≠ 0 := by
        rintro rfl
        rw [zzf, zli] at r3
        have := Nat.mul_pos (show 0 < w by omega) (Nat.two_pow_pos 1074)
        omega
      constructor
      · unfold zz
        rw [h2, show fOI .f64 (sg (nn .f64 x) w) = floatOfInt .f64 (sg (nn .f64 x) w) from rfl, r2, hs, hfi]
      · have hn1 : nanB .f64 (fint .zero x) = false := by rw [hfi]; exact zbg .f64 _ (Nat.le_of_lt r1)
        rw [(z5u .f64 hn1 (by decide +kernel)).1]
        refine decide_eq_false ?_
        intro e
        rw [show srung FloatKind.f64.format 0 = 0 from by decide +kernel] at e
        have : rg FloatKind.f64.format (fint .zero x) = r := by rw [hfi]; exact z48 _ _ (Nat.le_of_lt r1)
        unfold srung at e
        rw [this] at e
        unfold sg at e
        by_cases hs : ngB FloatKind.f64.format (fint .zero x) = true
        · rw [if_pos hs] at e; omega
        · rw [if_neg hs] at e; omega
  rw [hz.2]
  unfold qq
  rw [hz.1]
  by_cases h0 : w = 0
  · rw [decide_eq_true h0, if_pos h0, zax]
    cases fcmp .lss .f64 (fop .sub .f64 x 0) 0 <;> rfl
  · rw [decide_eq_false h0, if_neg h0, z7m]
    cases fcmp .lss .f64 (fop .sub .f64 x (fint .zero x)) 0 <;> rfl
theorem y9s {x : Nat} (h : smallB x = true) : zll x = some (sineV x) := by
  obtain ⟨p, q⟩ := y1n (y2e h)
  have h1 := fun u => (zyr u).1
  have h2 := fun u => (zyr u).2
  unfold zll zln
  simp only [p, q, h1, h2, z0w]
  unfold sineV sineA halfS
  generalize qq x = q
  cases fcmp .geq .f64 q 4602678819172646912
  · cases fcmp .gtr .f64 q 4598175219545276416 <;> rfl
  · cases fcmp .gtr .f64 (fop .sub .f64 q 4602678819172646912) 4598175219545276416 <;> rfl
theorem y2u (x : Nat) : finW .f64 (fcvV .f32 .f64 x) = finW .f32 x := by
  cases hn : nanB .f32 x with
  | true =>
    have e : fcvV .f32 .f64 x = qn .f64 := by unfold fcvV fcv; rw [hn]; rfl
    rw [e, ygz, zut hn]
  | false =>
    cases hf : finW .f32 x with
    | true =>
      have h1 : rg FloatKind.f32.format x ≤ 2139095039 := by
        have := zgk hf
        have hi : FloatKind.f32.format.infRung = 2139095040 := by decide
        omega
      exact z2b (up_rg (c := 5183643170566569984) (N := 925) h1 (by decide +kernel) (by decide +kernel) (by decide +kernel)) (by decide +kernel)
    | false =>
      have hr := y50 hn hf
      have e : fcvV .f32 .f64 x = FloatKind.f64.format.word (nn .f32 x) FloatKind.f64.format.infRung := by
        obtain ⟨r, hr2⟩ := y5k x
        have hv : fcvV .f32 .f64 x = r := by unfold fcvV; rw [hr2]; rfl
        rw [hv]
        unfold fcv at hr2
        rw [hn] at hr2
        simp only [Bool.false_eq_true, if_false] at hr2
        unfold floatToFloatBits at hr2
        rw [if_neg (by intro h; cases h)] at hr2
        have hd : FloatKind.f32.decode x = .infinity (nn .f32 x) := hr
        rw [hd] at hr2
        simp only at hr2
        cases hr2
        rfl
      rw [e]
      unfold finW
      rw [z48 _ _ (Nat.le_refl _)]
      exact decide_eq_false (by omega)
theorem up_is {x : Nat} (h : finW .f32 x = true) : ∃ s r, fcvV .f32 .f64 x = FloatKind.f64.format.word s r ∧ r < FloatKind.f64.format.infRung := by
  have e := up_eq h
  have hf : finW .f64 (fcvV .f32 .f64 x) = true := by rw [y2u, h]
  refine ⟨_, _, e, ?_⟩
  have := zgk hf
  rw [e] at this
  have hw : rg FloatKind.f64.format (Ieee.double.word (nn .f32 x) (rnd Ieee.double (mg .f32 x) (lp .f32))) = _ := z48 .f64 _ (z5n _ _ _)
  rw [hw] at this
  exact this
theorem yb1 {s : Bool} {r : Nat} (h : r < FloatKind.f64.format.infRung) : zn2 (FloatKind.f64.format.word s r) = some r := by
  have hi : FloatKind.f64.format.infRung = 9218868437227405312 := by decide
  rw [hi] at h
  have hn : nanB .f64 (FloatKind.f64.format.word s r) = false := zbg .f64 s (by rw [hi]; omega)
  have hn2 : nanB .f64 r = false := by
    have := zbg .f64 false (r := r) (by rw [hi]; omega)
    exact this
  have hw : FloatKind.f64.format.word s r % 9223372036854775808 = r := by
    have : rg FloatKind.f64.format (FloatKind.f64.format.word s r) = r := z48 _ _ (by rw [hi]; omega)
    exact this
  have hb : bitI .andNot .u64 (Int.ofNat (FloatKind.f64.format.word s r)) 9223372036854775808 = Int.ofNat r := by
    generalize FloatKind.f64.format.word s r = x at hw
    have e1 : bitI .andNot .u64 (Int.ofNat x) 9223372036854775808 = IntKind.u64.wrap ((BitVec.ofInt 64 (Int.ofNat x) &&& ~~~BitVec.ofInt 64 9223372036854775808).toNat) := rfl
    have e2 : BitVec.ofInt 64 (Int.ofNat x) = BitVec.ofNat 64 x := BitVec.ofInt_natCast ..
    have e3 : (~~~BitVec.ofInt 64 9223372036854775808).toNat = 2 ^ 63 - 1 := by decide +kernel
    rw [e1, e2, BitVec.toNat_and, e3, BitVec.toNat_ofNat, Nat.and_two_pow_sub_one_eq_mod]
    have e4 : x % 2 ^ 64 % 2 ^ 63 = r := by omega
    rw [e4]
    simp [IntKind.wrap, IntKind.bits, IntKind.signed]
    omega
  unfold zn2 zn3
  rw [hb]
  have ho : okU .f64 (Int.ofNat r) = true := decide_eq_true ⟨by simp, by
    show r < 2 ^ FloatKind.f64.format.width
    have : FloatKind.f64.format.width = 64 := by decide
    rw [this]; omega⟩
  have hc : cnI .f64 (Int.ofNat r) = r := by
    show cn .f64 r = r
    exact z3z hn2
  rw [ho, hc]
  simp only [nanQ, hn, bnot, Bool.not_false, z0w]
theorem y7a {x : Nat} {s : Bool} {r : Nat} (e : x = FloatKind.f64.format.word s r) (h : r < FloatKind.f64.format.infRung) : zgh x = some (!smallB x) := by
  obtain ⟨p, q⟩ := ybc (yb1 (s := s) h)
  unfold zgh zga
  rw [e, p, q]
  have hn : nanB .f64 r = false := zbg .f64 false (Nat.le_of_lt h)
  have hs : srung FloatKind.f64.format r = (r : Int) := by
    have h1 : rg FloatKind.f64.format r = r := z48 .f64 false (Nat.le_of_lt h)
    have h2 : nn .f64 r = false := zjt .f64 false (Nat.le_of_lt h)
    unfold srung
    rw [h1, show ngB FloatKind.f64.format r = false from h2]
    rfl
  rw [(z5u .f64 hn (by decide +kernel)).2.2.2.2.2, hs, show srung FloatKind.f64.format 4841369599423283200 = 4841369599423283200 from by decide +kernel]
  unfold smallB
  rw [z48 _ _ (Nat.le_of_lt h)]
  by_cases hh : r < 4841369599423283200
  · rw [decide_eq_true hh, decide_eq_false (by omega)]; rfl
  · rw [decide_eq_false hh, decide_eq_true (by omega)]; rfl
theorem yeh {x : Nat} {s : Bool} {r : Nat} (e : x = FloatKind.f64.format.word s r) (h : r < FloatKind.f64.format.infRung) : (fcmp .geq .f64 x 4841369599423283200 || fcmp .leq .f64 x 14064741636278059008) = !smallB x := by
  have hn : nanB .f64 x = false := by rw [e]; exact zbg .f64 s (Nat.le_of_lt h)
  have hs : srung FloatKind.f64.format x = sg s r := by
    have h1 : rg FloatKind.f64.format x = r := by rw [e]; exact z48 .f64 s (Nat.le_of_lt h)
    have h2 : nn .f64 x = s := by rw [e]; exact zjt .f64 s (Nat.le_of_lt h)
    unfold srung
    rw [h1, show ngB FloatKind.f64.format x = s from h2]
  rw [(z5u .f64 hn (by decide +kernel)).2.2.2.2.2, (z5u .f64 hn (by decide +kernel)).2.2.2.1, hs, show srung FloatKind.f64.format 4841369599423283200 = 4841369599423283200 from by decide +kernel, show srung FloatKind.f64.format 14064741636278059008 = -4841369599423283200 from by decide +kernel]
  unfold smallB
  rw [show rg FloatKind.f64.format x = r from by rw [e]; exact z48 .f64 s (Nat.le_of_lt h)]
  unfold sg
  by_cases hh : r < 4841369599423283200
  · rw [decide_eq_true hh]
    cases s
    · rw [if_neg (by decide), decide_eq_false (by omega), decide_eq_false (by omega)]; rfl
    · rw [if_pos rfl, decide_eq_false (by omega), decide_eq_false (by omega)]; rfl
  · rw [decide_eq_false hh]
    cases s
    · rw [if_neg (by decide), decide_eq_true (by omega)]; rfl
    · rw [if_pos rfl, decide_eq_true (p := -(r : Int) ≤ -4841369599423283200) (by omega)]
      simp
theorem zpq {u D p a b m c d B : Nat} (hu : rg FloatKind.f64.format u ≤ a) (hp : rg FloatKind.f64.format p ≤ b) (ha : a < FloatKind.f64.format.infRung) (hb : b < FloatKind.f64.format.infRung) (hm : m < FloatKind.f64.format.infRung) (hc : c < FloatKind.f64.format.infRung)
    (h1 : rungV FloatKind.f64.format a * rungV FloatKind.f64.format b ≤ rungV FloatKind.f64.format m * 2 ^ 1074) (hD : finW .f64 D = true) (hB : B ≤ mg .f64 D) (hB0 : 0 < B) (h2 : 2 * rungV FloatKind.f64.format m * 2 ^ 1074 ≤ rungV FloatKind.f64.format c * B)
    (h3 : rungV FloatKind.f64.format 4607182418800017408 + rungV FloatKind.f64.format c ≤ rungV FloatKind.f64.format d) : rg FloatKind.f64.format (rnd1 u D p) ≤ d := by
  have g1 : rg FloatKind.f64.format (fop .mul .f64 u p) ≤ m := zxv (N := 1074) hu hp ha hb (by decide +kernel) h1
  have g2 : rg FloatKind.f64.format (fop .quo .f64 (fop .mul .f64 u p) D) ≤ c := ydw (N := 1074) (z2b g1 hm) hD (mg_le g1) hB hB0 (by decide +kernel) h2
  exact zqe (show rg FloatKind.f64.format 4607182418800017408 ≤ 4607182418800017408 by decide +kernel) g2 (by decide +kernel) hc h3
theorem ygm {u : Nat} (hu : rg FloatKind.f64.format u ≤ 4661225614328463360) : rg FloatKind.f64.format (poly u) ≤ 5039527983027585024 := by
  have g0 := zpq (a := 4661225614328463360) (b := 4607182418800017408) (m := 4661225614328463360) (c := 4656722014701092864) (d := 4661225614328463360) (B := 6 * 2 ^ 1074) (D := 4643492690795692032) hu (show rg FloatKind.f64.format 4607182418800017408 ≤ 4607182418800017408 by decide +kernel) (by decide +kernel) (by decide +kernel) (by decide +kernel) (by decide +kernel) (by decide +kernel) (by decide +kernel) (by decide +kernel) (by decide +kernel) (by decide +kernel) (by decide +kernel)
  have g1 := zpq (a := 4661225614328463360) (b := 4661225614328463360) (m := 4715268809856909312) (c := 4710765210229538816) (d := 4715268809856909312) (B := 6 * 2 ^ 1074) (D := 4641592734702895104) hu g0 (by decide +kernel) (by decide +kernel) (by decide +kernel) (by decide +kernel) (by decide +kernel) (by decide +kernel) (by decide +kernel) (by decide +kernel) (by decide +kernel) (by decide +kernel)
  have g2 := zpq (a := 4661225614328463360) (b := 4715268809856909312) (m := 4769312005385355264) (c := 4764808405757984768) (d := 4769312005385355264) (B := 6 * 2 ^ 1074) (D := 4639692778610098176) hu g1 (by decide +kernel) (by decide +kernel) (by decide +kernel) (by decide +kernel) (by decide +kernel) (by decide +kernel) (by decide +kernel) (by decide +kernel) (by decide +kernel) (by decide +kernel)
  have g3 := zpq (a := 4661225614328463360) (b := 4769312005385355264) (m := 4823355200913801216) (c := 4818851601286430720) (d := 4823355200913801216) (B := 6 * 2 ^ 1074) (D := 4637440978796412928) hu g2 (by decide +kernel) (by decide +kernel) (by decide +kernel) (by decide +kernel) (by decide +kernel) (by decide +kernel) (by decide +kernel) (by decide +kernel) (by decide +kernel) (by decide +kernel)
  have g4 := zpq (a := 4661225614328463360) (b := 4823355200913801216) (m := 4877398396442247168) (c := 4872894796814876672) (d := 4877398396442247168) (B := 6 * 2 ^ 1074) (D := 4634766966517661696) hu g3 (by decide +kernel) (by decide +kernel) (by decide +kernel) (by decide +kernel) (by decide +kernel) (by decide +kernel) (by decide +kernel) (by decide +kernel) (by decide +kernel) (by decide +kernel)
  have g5 := zpq (a := 4661225614328463360) (b := 4877398396442247168) (m := 4931441591970693120) (c := 4926937992343322624) (d := 4931441591970693120) (B := 6 * 2 ^ 1074) (D := 4631107791820423168) hu g4 (by decide +kernel) (by decide +kernel) (by decide +kernel) (by decide +kernel) (by decide +kernel) (by decide +kernel) (by decide +kernel) (by decide +kernel) (by decide +kernel) (by decide +kernel)
  have g6 := zpq (a := 4661225614328463360) (b := 4931441591970693120) (m := 4985484787499139072) (c := 4980981187871768576) (d := 4985484787499139072) (B := 6 * 2 ^ 1074) (D := 4626322717216342016) hu g5 (by decide +kernel) (by decide +kernel) (by decide +kernel) (by decide +kernel) (by decide +kernel) (by decide +kernel) (by decide +kernel) (by decide +kernel) (by decide +kernel) (by decide +kernel)
  have g7 := zpq (a := 4661225614328463360) (b := 4985484787499139072) (m := 5039527983027585024) (c := 5035024383400214528) (d := 5039527983027585024) (B := 6 * 2 ^ 1074) (D := 4618441417868443648) hu g6 (by decide +kernel) (by decide +kernel) (by decide +kernel) (by decide +kernel) (by decide +kernel) (by decide +kernel) (by decide +kernel) (by decide +kernel) (by decide +kernel) (by decide +kernel)
  exact g7
theorem ygy (x : Nat) (h : nanB .f64 x = false) : rg FloatKind.f64.format (fneg .f64 x) = rg FloatKind.f64.format x := by
  have e : fneg .f64 x = x ^^^ 2 ^ 63 := by
    unfold fneg
    rw [h, if_neg (by decide)]
    rfl
  rw [e]
  show (x ^^^ 2 ^ 63) % FloatKind.f64.format.signWeight = x % FloatKind.f64.format.signWeight
  rw [show FloatKind.f64.format.signWeight = 2 ^ 63 from by decide, Nat.xor_mod_two_pow, Nat.mod_self, Nat.xor_zero]
theorem y9t {r : Nat} (h : rg FloatKind.f64.format r ≤ 4616189618054758400) : rg FloatKind.f64.format (halfS r) ≤ 5066549580791808000 := by
  have key : ∀ y, rg FloatKind.f64.format y ≤ 4620693217682128896 → rg FloatKind.f64.format (fop .mul .f64 (fop .mul .f64 y 4618760256179416344) (poly (fop .mul .f64 (fop .mul .f64 y 4618760256179416344) (fop .mul .f64 y 4618760256179416344)))) ≤ 5066549580791808000 := by
    intro y hy
    have g1 : rg FloatKind.f64.format (fop .mul .f64 y 4618760256179416344) ≤ 4634204016564240384 := zxv (N := 1074) hy (show rg FloatKind.f64.format 4618760256179416344 ≤ 4618760256179416344 by decide +kernel) (by decide +kernel) (by decide +kernel) (by decide +kernel) (by decide +kernel)
    have g2 : rg FloatKind.f64.format (fop .mul .f64 (fop .mul .f64 y 4618760256179416344) (fop .mul .f64 y 4618760256179416344)) ≤ 4661225614328463360 := zxv (N := 1074) g1 g1 (by decide +kernel) (by decide +kernel) (by decide +kernel) (by decide +kernel)
    exact zxv (N := 1074) g1 (ygm g2) (by decide +kernel) (by decide +kernel) (by decide +kernel) (by decide +kernel)
  unfold halfS
  split
  · exact key _ (zqe (show rg FloatKind.f64.format 4602678819172646912 ≤ 4602678819172646912 by decide +kernel) h (by decide +kernel) (by decide +kernel) (by decide +kernel))
  · exact key _ (Nat.le_trans h (by decide))
theorem yfq {x : Nat} (h : smallB x = true) : rg FloatKind.f64.format (sineV x) ≤ 5066549580791808000 := by
  have g0 := zz_rg h
  have g1 : rg FloatKind.f64.format (qq x) ≤ 4611686018427387904 := by
    unfold qq
    split
    · exact zxk g0 (show rg FloatKind.f64.format 4607182418800017408 ≤ 4607182418800017408 by decide +kernel) (by decide +kernel) (by decide +kernel) (by decide +kernel)
    · exact Nat.le_trans g0 (by decide)
  unfold sineV sineA
  generalize qq x = q at g1
  split
  · have g2 : rg FloatKind.f64.format (halfS (fop .sub .f64 q 4602678819172646912)) ≤ 5066549580791808000 := y9t (zqe g1 (show rg FloatKind.f64.format 4602678819172646912 ≤ 4602678819172646912 by decide +kernel) (by decide +kernel) (by decide +kernel) (by decide +kernel))
    rw [ygy _ (z4u (z2b g2 (by decide +kernel)))]
    exact g2
  · exact y9t (Nat.le_trans g1 (by decide))
theorem y5x {x : Nat} (h : smallB x = true) : fcvB .f64 .f32 (sineV x) = true :=
  yb0 (c := 1920991232) (N := 925) (yfq h) (by decide +kernel) (by decide +kernel) (by decide +kernel) (by decide +kernel)
noncomputable def sineT (x : Nat) : Nat := if finB x = true then (if smallB (fcvV .f32 .f64 x) = true then fcvV .f64 .f32 (sineV (fcvV .f32 .f64 x)) else 0) else qn .f32
theorem y49 : zng = some (qn .f64) := by
  unfold zng zni
  rw [show okU .f64 9221120237041090561 = true from by decide +kernel, show cnI .f64 9221120237041090561 = qn .f64 from by decide +kernel]; rfl
theorem zo2 (x : Nat) : zbq x = some (sineT x) := by
  obtain ⟨p1, q1⟩ := z7n (z7g x)
  obtain ⟨p2, q2⟩ := y4d y49
  unfold zbq zbm sineT
  rw [p1, q1, p2, q2, show fcvB .f64 .f32 (qn .f64) = true from by decide +kernel, show fcvV .f64 .f32 (qn .f64) = qn .f32 from by decide +kernel]
  cases hf : finB x
  · rfl
  · rw [zlm] at hf
    obtain ⟨s, r, e, hr⟩ := up_is hf
    obtain ⟨p3, q3⟩ := y7i (y7a e hr)
    rw [p3, q3]
    cases hs : smallB (fcvV .f32 .f64 x)
    · rfl
    · obtain ⟨p4, q4⟩ := y9d (y9s hs)
      rw [p4, q4, y5x hs]; rfl
theorem y11 {x : Nat} (hb : smallB x = true) (hg : fcmp .geq .f64 x 4841369599423283200 = false) (hl : fcmp .leq .f64 x 14064741636278059008 = false) : z5z x = some (sineV x) := by
  obtain ⟨h0, _⟩ := y2b hb
  have h1 := fun u => (zxe u).1
  have h2 := fun u => (zxe u).2
  have h3 : fcmp .neq .f64 (fop .sub .f64 x x) 0 = false := by rw [zwx, zmv hb]; rfl
  unfold z5z z75
  simp only [h0, h1, h2, h3, hg, hl, z0w, z7m]
  unfold sineV sineA halfS qq zz
  generalize fop .sub .f64 x (fOI .f64 (f2iV .f64 x .i64)) = z
  cases fcmp .lss .f64 z 0
  · cases h5 : fcmp .geq .f64 z 4602678819172646912
    · cases hc : fcmp .gtr .f64 z 4598175219545276416 <;> simp [br, hc, h5]
    · cases hc : fcmp .gtr .f64 (fop .sub .f64 z 4602678819172646912) 4598175219545276416 <;> simp [br, hc, h5]
  · generalize fop .add .f64 z 4607182418800017408 = z
    cases h5 : fcmp .geq .f64 z 4602678819172646912
    · cases hc : fcmp .gtr .f64 z 4598175219545276416 <;> simp [br, hc, h5]
    · cases hc : fcmp .gtr .f64 (fop .sub .f64 z 4602678819172646912) 4598175219545276416 <;> simp [br, hc, h5]
theorem zt0 {x : Nat} (h : fcvB .f64 .f32 x = true) : zbv x = some (fcvV .f64 .f32 x) := by
  unfold zbv zbp
  rw [h]; rfl
theorem zvt (x : Nat) : zbt x = some (sineT x) := by
  have key : ∀ v, z5z (fcvV .f32 .f64 x) = some v → fcvB .f64 .f32 v = true → zbt x = some (fcvV .f64 .f32 v) := by
    intro v h1 h2
    obtain ⟨p1, q1⟩ := y0o h1
    obtain ⟨p2, q2⟩ := zsz (zt0 h2)
    unfold zbt ze9
    rw [p1, q1, p2, q2]; rfl
  unfold sineT
  cases hf : finB x
  · have h3 : fcmp .neq .f64 (fop .sub .f64 (fcvV .f32 .f64 x) (fcvV .f32 .f64 x)) 0 = true := by
      rw [zwx, y2u, ← zlm, hf]; rfl
    obtain ⟨p2, q2⟩ := y4d y49
    have := key (qn .f64) (by unfold z5z z75; rw [h3, p2, q2]; rfl) (by decide +kernel)
    rw [this, show fcvV .f64 .f32 (qn .f64) = qn .f32 from by decide +kernel]; rfl
  · have hf' := hf
    rw [zlm] at hf
    obtain ⟨s, r, e, hr⟩ := up_is hf
    have hh := yeh e hr
    have h3 : fcmp .neq .f64 (fop .sub .f64 (fcvV .f32 .f64 x) (fcvV .f32 .f64 x)) 0 = false := by
      rw [zwx, y2u, hf]; rfl
    cases hs : smallB (fcvV .f32 .f64 x)
    · rw [hs] at hh
      have := key 0 (by
        unfold z5z z75
        rw [h3]
        cases hg : fcmp .geq .f64 (fcvV .f32 .f64 x) 4841369599423283200
        · rw [hg] at hh
          have hl : fcmp .leq .f64 (fcvV .f32 .f64 x) 14064741636278059008 = true := hh
          rw [hl]; rfl
        · rfl) (by decide +kernel)
      rw [this, show fcvV .f64 .f32 0 = 0 from by decide +kernel]; rfl
    · rw [hs] at hh
      have hg : fcmp .geq .f64 (fcvV .f32 .f64 x) 4841369599423283200 = false := by
        cases hg : fcmp .geq .f64 (fcvV .f32 .f64 x) 4841369599423283200 with
        | false => rfl
        | true => rw [hg] at hh; cases hh
      have hl : fcmp .leq .f64 (fcvV .f32 .f64 x) 14064741636278059008 = false := by
        rw [hg] at hh
        exact hh
      exact key _ (y11 hs hg hl) (y5x hs)
def plateA (n i : Nat) : Nat := fop .sub .f32 (fop .quo .f32 (fOI .f32 (Int.ofNat i)) (fOI .f32 (subI .i64 (Int.ofNat n) 1))) 1056964608
noncomputable def plateL (n i : Nat) : Nat := fop .mul .f32 (fop .mul .f32 1073741824 (sineT (plateA n i))) (sineT (fop .add .f32 (plateA n i) 1048576000))
noncomputable def plateD (n i : Nat) : Nat := fop .mul .f32 (fop .mul .f32 1073741824 (sineT (plateA n i))) (sineT (plateA n i))
def listOf (f : Nat → Nat) (n : Nat) : List Nat := (List.range n).map f
theorem zlh (f : Nat → Nat) (n : Nat) : (listOf f n).length = n := by simp [listOf]
theorem zx1 (f : Nat → Nat) (n : Nat) : listOf f (n + 1) = listOf f n ++ [f n] := by simp [listOf, List.range_succ]
theorem y6d {n : Nat} (hn : n ≤ 24) :
    z1h (Int.ofNat n) big 0 0 0 0 [] [] [] = some (Int.ofNat n, false, n, n, n, listOf (plateA n) n, listOf (plateL n) n, listOf (plateD n) n) := by
  have := runs (L := fun m i => z1h (Int.ofNat n) m i i.toNat i.toNat i.toNat (listOf (plateA n) i.toNat) (listOf (plateL n) i.toNat) (listOf (plateD n) i.toNat)) (len := n) (e := (Int.ofNat n, false, n, n, n, listOf (plateA n) n, listOf (plateL n) n, listOf (plateD n) n))
    (fun m i hi => by
      show z1h _ _ _ i i i (listOf (plateA n) i) (listOf (plateL n) i) (listOf (plateD n) i) = z1h _ _ _ (i + 1) (i + 1) (i + 1) (listOf (plateA n) (i + 1)) (listOf (plateL n) (i + 1)) (listOf (plateD n) (i + 1))
      obtain ⟨p1, q1⟩ := zvy (zvt (plateA n i))
      obtain ⟨p2, q2⟩ := zvy (zvt (fop .add .f32 (plateA n i) 1048576000))
      rw [znj]; unfold z64
      rw [ltN_t hi, addI1 (by omega), zx7 _ (b := listOf (plateA n) i) (zlh _ _) (by omega), zx7 _ (b := listOf (plateL n) i) (zlh _ _) (by omega), zx7 _ (b := listOf (plateD n) i) (zlh _ _) (by omega), zx1, zx1, zx1]
      show br _ (grd (zbx (plateA n i)) (grd (zbx (fop .add .f32 (plateA n i) 1048576000)) (grd _ (grd _ (grd _ (z1h _ _ _ _ _ _ (aF _ (pF [plateA n i] 0 (muN 1 1))) (aF _ (pF [fop .mul .f32 (fop .mul .f32 1073741824 (z3u (plateA n i))) (z3u (fop .add .f32 (plateA n i) 1048576000))] 0 (muN 1 1))) (aF _ (pF [fop .mul .f32 (fop .mul .f32 1073741824 (z3u (plateA n i))) (z3u (plateA n i))] 0 (muN 1 1))))))))) _ = _
      rw [p1, q1, p2, q2]
      rfl)
    (fun m => by
      show z1h _ _ _ n n n (listOf (plateA n) n) (listOf (plateL n) n) (listOf (plateD n) n) = _
      rw [znj]; unfold z64; rw [ltN_f (Nat.le_refl _)]; rfl) (by omega)
  exact this
theorem yeq (f : Nat → Nat) (n : Nat) : pF (listOf f n) 0 (muN n 1) = listOf f n := by
  have := z5r (listOf f n); rw [zlh] at this; exact this
theorem yf2 {y : Nat} (hn : nanB .f64 y = false) (h : fcvB .f64 .f32 y = true) : nanB .f32 (fcvV .f64 .f32 y) = false := by
  unfold fcvB at h
  obtain ⟨r, hr⟩ := Option.isSome_iff_exists.1 h
  have hv : fcvV .f64 .f32 y = r := by unfold fcvV; rw [hr]; rfl
  rw [hv]
  unfold fcv at hr
  rw [hn] at hr
  simp only [Bool.false_eq_true, if_false] at hr
  unfold floatToFloatBits at hr
  rw [if_neg (by intro h; cases h)] at hr
  split at hr
  · cases hr
  · cases hr
    exact zbg .f32 _ (Nat.le_refl _)
  · split at hr
    · cases hr
    · cases hr
      show nanB .f32 (FloatKind.f32.format.nearest _ _ _) = false
      rw [(z60 _ _ _ _).1]
      exact zbg .f32 _ (z5n _ _ _)
noncomputable def wrapY (x : Nat) : Nat := fop .sub .f64 (fcvV .f32 .f64 x) (fint .down (fop .add .f64 (fcvV .f32 .f64 x) 4602678819172646912))
noncomputable def wrapV (x : Nat) : Nat := if fcmp .geq .f32 (fcvV .f64 .f32 (wrapY x)) 1056964608 = true then 3204448256 else fcvV .f64 .f32 (wrapY x)
theorem yat {x : Nat} (h : finB x = true) : finW .f64 (fcvV .f32 .f64 x) = true ∧ rg FloatKind.f64.format (fcvV .f32 .f64 x) ≤ 5183643171103440896 := by
  rw [zlm] at h
  have h1 : rg FloatKind.f32.format x ≤ 2139095039 := by
    have := zgk h
    have hi : FloatKind.f32.format.infRung = 2139095040 := by decide
    omega
  exact ⟨by rw [y2u, h], up_rg (N := 925) h1 (by decide +kernel) (by decide +kernel) (by decide +kernel)⟩
theorem ye8 {x : Nat} (h : finB x = true) : nanB .f32 (wrapV x) = false := by
  obtain ⟨h1, h2⟩ := yat h
  obtain ⟨w1, w2, w3⟩ := y1j h1 h2
  unfold wrapV
  split
  · decide +kernel
  · exact yf2 w3 w2
theorem y3f {x : Nat} (h : finB x = true) : zbz x = some (wrapV x) := by
  obtain ⟨h1, h2⟩ := yat h
  obtain ⟨w1, w2, w3⟩ := y1j h1 h2
  obtain ⟨p, q⟩ := y0d (y0b w1)
  unfold zbz zc5 wrapV wrapY
  rw [p, q, w2, br_if]
  split <;> rfl
theorem y6e {x : Nat} (h : finB x = true) : zk0 x = some (wrapV x) := by
  obtain ⟨h1, h2⟩ := yat h
  obtain ⟨w1, w2, w3⟩ := y1j h1 h2
  obtain ⟨p, q⟩ := y0d (y0b w1)
  obtain ⟨p2, q2⟩ := zsz (zt0 w2)
  unfold zk0 zxu wrapV wrapY
  rw [p, q, p2, q2, br_if]
  split <;> rfl
theorem yg5 (f : Ieee.Format) {m : Nat} (h : 0 < m) (hi : 1 ≤ f.infRung) (hb : rungV f 1 ≤ 1) : rnd f m f.leastPlace ≠ 0 := by
  have := zu1 f (m := m) (r := 1) (u := 0) (v := 0) (place := f.leastPlace) hi rfl (by rw [Nat.pow_zero, Nat.mul_one, Nat.mul_one]; omega)
  omega
theorem sub_zero {x y : Nat} (hx : finW .f32 x = true) (hy : finW .f32 y = true) : fcmp .eql .f32 (fop .sub .f32 x y) 0 = fcmp .eql .f32 x y := by
  have hsub := zew hx hy
  have hn : nanB .f32 (fop .sub .f32 x y) = false := by rw [hsub]; exact zbg .f32 _ (z5n _ _ _)
  rw [(z5u .f32 hn yaz).1, (z5u .f32 (z4u hx) (z4u hy)).1]
  have hr : rg FloatKind.f32.format (fop .sub .f32 x y) = rnd FloatKind.f32.format (vl .f32 x - vl .f32 y).natAbs (lp .f32) := by rw [hsub]; exact z48 _ _ (z5n _ _ _)
  have h0 : srung FloatKind.f32.format 0 = 0 := by decide +kernel
  rw [h0]
  have e1 : srung FloatKind.f32.format (fop .sub .f32 x y) = 0 ↔ vl .f32 x = vl .f32 y := by
    have : srung FloatKind.f32.format (fop .sub .f32 x y) = 0 ↔ rg FloatKind.f32.format (fop .sub .f32 x y) = 0 := by
      unfold srung sg
      by_cases hs : ngB FloatKind.f32.format (fop .sub .f32 x y) = true
      · rw [if_pos hs]; omega
      · rw [if_neg hs]; omega
    rw [this, hr]
    constructor
    · intro h
      by_cases hd : (vl .f32 x - vl .f32 y).natAbs = 0
      · omega
      · exact absurd h (yg5 FloatKind.f32.format (by omega) (by decide) (by decide +kernel))
    · intro h
      have : (vl .f32 x - vl .f32 y).natAbs = 0 := by omega
      rw [this, zrb]
  have e2 : vl .f32 x = vl .f32 y ↔ srung FloatKind.f32.format x = srung FloatKind.f32.format y := by
    have h := ydh FloatKind.f32.format (nn .f32 x) (nn .f32 y) (rg FloatKind.f32.format x) (rg FloatKind.f32.format y)
    have key : ∀ a b : Int, compare a b = .eq ↔ a = b := by
      intro a b
      rw [znd]
      by_cases h1 : a < b
      · rw [if_pos h1]; constructor
        · intro h; cases h
        · intro h; omega
      · rw [if_neg h1]
        by_cases h2 : a = b
        · rw [if_pos h2]; simp [h2]
        · rw [if_neg h2]; constructor
          · intro h; cases h
          · intro h; exact absurd h h2
    rw [← key, ← key]
    show compare (sg (nn .f32 x) (rungV _ _)) (sg (nn .f32 y) (rungV _ _)) = _ ↔ compare (sg _ _) (sg _ _) = _
    rw [h]; exact Iff.rfl
  exact decide_eq_decide.2 (e1.trans e2)
theorem ygb {x y : Nat} (hx : nanB .f32 x = false) (hy : nanB .f32 y = false) : fcmp .neq .f32 x y = !fcmp .eql .f32 y x := by
  rw [(z5u .f32 hx hy).2.1, (z5u .f32 hy hx).1]
  congr 1
  exact decide_eq_decide.2 ⟨Eq.symm, Eq.symm⟩
theorem y5j {α β : Type} {L : Nat → Int → Option (α ⊕ β)} {len : Nat} (p : Nat → Bool) {g : Nat → α} {e : β}
    (hs : ∀ n i, i < len → L (n + 1) (Int.ofNat i) = if p i = true then L n (Int.ofNat (i + 1)) else some (.inl (g i)))
    (he : ∀ n, L (n + 1) (Int.ofNat len) = some (.inr e)) :
    ∀ k i n, i + k = len → k < n → ((∀ j, i ≤ j → j < len → p j = true) ∧ L n (Int.ofNat i) = some (.inr e)) ∨ ∃ j, i ≤ j ∧ j < len ∧ p j = false ∧ (∀ l, i ≤ l → l < j → p l = true) ∧ L n (Int.ofNat i) = some (.inl (g j))
  | 0, i, n, hk, hn => by
    obtain ⟨n, rfl⟩ : ∃ m, n = m + 1 := ⟨n - 1, by omega⟩
    obtain rfl : i = len := by omega
    exact .inl ⟨fun j h1 h2 => by omega, he n⟩
  | k + 1, i, n, hk, hn => by
    obtain ⟨n, rfl⟩ : ∃ m, n = m + 1 := ⟨n - 1, by omega⟩
    have hi : i < len := by omega
    rw [hs n i hi]
    cases hp : p i with
    | false => exact .inr ⟨i, Nat.le_refl _, hi, hp, fun l h1 h2 => by omega, by simp⟩
    | true =>
      simp only [if_pos]
      rcases y5j p hs he k (i + 1) n (by omega) (by omega) with ⟨h1, h2⟩ | ⟨j, h1, h2, h3, h5, h4⟩
      · refine .inl ⟨fun j h3 h4 => ?_, h2⟩
        by_cases e : j = i
        · rw [e]; exact hp
        · exact h1 j (by omega) h4
      · refine .inr ⟨j, by omega, h2, h3, fun l h6 h7 => ?_, h4⟩
        by_cases e : l = i
        · rw [e]; exact hp
        · exact h5 l (by omega) h7
theorem zy3 {as : List Nat} {j : Nat} (h : knotB as j = true) : rg FloatKind.f32.format (as.getD j 0) ≤ 1056964608 := by
  unfold knotB fromToB at h
  simp only [Bool.and_eq_true] at h
  exact yd1 (k := .f32) (by decide +kernel) (by decide +kernel) (by decide +kernel) (by decide +kernel) h.1.1 h.1.2
theorem ybz {as : List Nat} {n : Nat} (h : ∀ j, j < n → knotB as j = true) : ∀ d i, i + d < n → srung FloatKind.f32.format (as.getD i 0) ≤ srung FloatKind.f32.format (as.getD (i + d) 0)
  | 0, i, _ => Int.le_refl _
  | d + 1, i, hi => by
    have h1 := ybz h d i (by omega)
    have h2 := h (i + (d + 1)) hi
    have n1 : nanB .f32 (as.getD (i + (d + 1)) 0) = false := z4u (z2b (zy3 h2) (by decide +kernel))
    have n2 : nanB .f32 (as.getD (i + d) 0) = false := z4u (z2b (zy3 (h (i + d) (by omega))) (by decide +kernel))
    unfold knotB at h2
    rw [decide_eq_false (by omega), Bool.and_eq_true, Bool.false_or, show i + (d + 1) - 1 = i + d by omega] at h2
    rw [(z5u .f32 n1 n2).2.2.2.1] at h2
    have h3 := h2.2
    simp only [Bool.not_eq_true', decide_eq_false_iff_not] at h3
    omega
def aboveB (as : List Nat) (t j : Nat) : Bool := fcmp .gtr .f32 (as.getD j 0) t
theorem y3p {as : List Nat} {t : Nat} (hl : as.length ≤ 24) :
    ((∀ j, j < as.length → aboveB as t j = false) ∧ z0h as.length (Int.ofNat as.length) as t big 0 = some (.inr (Int.ofNat as.length, false))) ∨
    ∃ j, j < as.length ∧ aboveB as t j = true ∧ (∀ l, l < j → aboveB as t l = false) ∧ z0h as.length (Int.ofNat as.length) as t big 0 = some (.inl (Int.ofNat j)) := by
  rcases y5j (L := z0h as.length (Int.ofNat as.length) as t) (len := as.length) (fun j => !aboveB as t j) (g := fun j => Int.ofNat j) (e := (Int.ofNat as.length, false))
    (fun n i hi => by
      rw [z8e]; unfold z14
      rw [ltN_t hi, z90 hi, ix1, addI1 (by omega)]
      unfold aboveB
      simp only [gF, zax, z0w]
      cases fcmp .gtr .f32 (as.getD i 0) t <;> rfl)
    (fun n => by rw [z8e]; unfold z14; rw [ltN_f (Nat.le_refl _)]; rfl) as.length 0 big (by omega) (zdc (by omega)) with ⟨h1, h2⟩ | ⟨j, _, h2, h3, h4, h5⟩
  · exact .inl ⟨fun j hj => by simpa using h1 j (Nat.zero_le _) hj, h2⟩
  · exact .inr ⟨j, h2, by simpa using h3, fun l hl => by simpa using h4 l (Nat.zero_le _) hl, h5⟩
theorem zra {as : List Nat} {t j : Nat} (hl : as.length ≤ 24) (h1 : ∀ l, l < j → aboveB as t l = false) (h2 : ∀ l, j ≤ l → l < as.length → aboveB as t l = true) :
    ∀ d m, j + d ≤ as.length → d < m → z6m t as as.length m ((j : Int) + (d : Int) - 1) = some ((j : Int) - 1, false)
  | 0, m, hd, hm => by
    obtain ⟨m, rfl⟩ : ∃ k, m = k + 1 := ⟨m - 1, by omega⟩
    rw [zoe]; unfold zjg
    by_cases h0 : j = 0
    · subst h0; rfl
    · have e : (j : Int) + ((0 : Nat) : Int) - 1 = Int.ofNat (j - 1) := by simp; omega
      have e2 : (j : Int) - 1 = Int.ofNat (j - 1) := by simp; omega
      have ha := h1 (j - 1) (by omega)
      unfold aboveB at ha
      rw [e, e2, show leI 0 (Int.ofNat (j - 1)) = true from decide_eq_true (by simp), z90 (show j - 1 < as.length by omega), ix1]
      show br true (grd true (br (fcmp .gtr .f32 (as.getD (j - 1) 0) t) _ (some (_, fcmp .gtr .f32 (as.getD (j - 1) 0) t)))) _ = _
      rw [ha]; rfl
  | d + 1, m, hd, hm => by
    obtain ⟨m, rfl⟩ : ∃ k, m = k + 1 := ⟨m - 1, by omega⟩
    have e : (j : Int) + ((d + 1 : Nat) : Int) - 1 = Int.ofNat (j + d) := by simp; omega
    have ha := h2 (j + d) (by omega) (by omega)
    unfold aboveB at ha
    rw [zoe]; unfold zjg
    rw [e, show leI 0 (Int.ofNat (j + d)) = true from decide_eq_true (by simp; omega), z90 (show j + d < as.length by omega), ix1]
    have e3 : subI .i64 (Int.ofNat (j + d)) 1 = (j : Int) + (d : Int) - 1 := by
      have : subI .i64 (Int.ofNat (j + d)) 1 = ((j + d : Nat) : Int) - 1 := z7s (by simp; omega) (by simp; omega)
      rw [this]; omega
    show br true (grd true (br (fcmp .gtr .f32 (as.getD (j + d) 0) t) (z6m t as as.length m (subI .i64 (Int.ofNat (j + d)) 1)) _)) _ = _
    rw [ha, e3]
    exact zra hl h1 h2 d m (by omega) (by omega)
def pairR (as : List Nat) (j : Nat) : Nat × Nat × Nat × Nat :=
  if j = 0 then (as.length - 1, 0, fop .sub .f32 (as.getD (as.length - 1) 0) 1065353216, as.getD 0 0)
  else if j = as.length then (as.length - 1, 0, as.getD (as.length - 1) 0, fop .add .f32 (as.getD 0 0) 1065353216)
  else (j - 1, j, as.getD (j - 1) 0, as.getD j 0)
theorem ybm {x y : Nat} : fcmp .lss .f32 x y = fcmp .gtr .f32 y x := by
  cases hx : nanB .f32 x with
  | true => rw [(zbs .f32 (.inl hx)).2.2.1, (zbs .f32 (.inr hx)).2.2.2.2.1]
  | false =>
    cases hy : nanB .f32 y with
    | true => rw [(zbs .f32 (.inr hy)).2.2.1, (zbs .f32 (.inl hy)).2.2.2.2.1]
    | false => rw [(z5u .f32 hx hy).2.2.1, (z5u .f32 hy hx).2.2.2.2.1]
theorem y6i {as ls ds : List Nat} (h : validProfB as ls ds = true) : ∀ j, j < as.length → knotB as j = true := by
  unfold validProfB at h
  simp only [Bool.and_eq_true] at h
  intro j hj
  have := zci.1 h.2.2.2.2 j hj
  unfold profB at this
  rw [Bool.and_eq_true] at this
  exact this.1
theorem yd3 {as ls ds : List Nat} {t j l : Nat} (hv : validProfB as ls ds = true) (ht : nanB .f32 t = false) (hj : j < as.length) (ha : aboveB as t j = true) (h1 : j ≤ l) (h2 : l < as.length) : aboveB as t l = true := by
  have hk := y6i hv
  have h3 := ybz hk (l - j) j (by omega)
  rw [show j + (l - j) = l by omega] at h3
  have n1 : nanB .f32 (as.getD j 0) = false := z4u (z2b (zy3 (hk j hj)) (by decide +kernel))
  have n2 : nanB .f32 (as.getD l 0) = false := z4u (z2b (zy3 (hk l h2)) (by decide +kernel))
  unfold aboveB at ha ⊢
  rw [(z5u .f32 n1 ht).2.2.2.2.1] at ha
  rw [(z5u .f32 n2 ht).2.2.2.2.1]
  have := of_decide_eq_true ha
  exact decide_eq_true (by omega)
theorem yg2 {as ls ds : List Nat} {x : Nat} (hv : validProfB as ls ds = true) (hx : finB x = true) : ∃ j, j ≤ as.length ∧
    z3b as.length as ls.length ls ds.length ds x = some (Int.ofNat (pairR as j).1, Int.ofNat (pairR as j).2.1, (pairR as j).2.2.1, (pairR as j).2.2.2, wrapV x) ∧
    zrj as.length as ls.length ls ds.length ds x = some (Int.ofNat (pairR as j).1, Int.ofNat (pairR as j).2.1, (if fcmp .eql .f32 (fop .sub .f32 (pairR as j).2.2.2 (pairR as j).2.2.1) 0 = true then 0 else fop .quo .f32 (fop .sub .f32 (wrapV x) (pairR as j).2.2.1) (fop .sub .f32 (pairR as j).2.2.2 (pairR as j).2.2.1)), fop .sub .f32 (pairR as j).2.2.2 (pairR as j).2.2.1) := by
  obtain ⟨c1, c2, c3, c4⟩ := zrh hv
  have ht := ye8 hx
  obtain ⟨p1, q1⟩ := y3d (y3f hx)
  obtain ⟨p2, q2⟩ := y63 (y6e hx)
  have hn1 : subI .i64 (Int.ofNat as.length) 1 = Int.ofNat (as.length - 1) := subN1 (by omega) (by omega)
  have o1 : okIx (Int.ofNat (as.length - 1)) as.length = true := z90 (by omega)
  have o0 : okIx 0 as.length = true := z90 (i := 0) (by omega)
  have i0 : ixO 0 0 1 = 0 := rfl
  generalize wrapV x = t at ht q1 q2 ⊢
  rcases y3p (t := t) c2 with ⟨k1, k2⟩ | ⟨j, k1, k2, k3, k4⟩
  · refine ⟨as.length, Nat.le_refl _, ?_, ?_⟩
    · obtain ⟨g1, g2, _⟩ := zfp rfl k2
      have hr : pairR as as.length = (as.length - 1, 0, as.getD (as.length - 1) 0, fop .add .f32 (as.getD 0 0) 1065353216) := by unfold pairR; rw [if_neg (by omega), if_pos rfl]
      rw [hr]
      unfold z3b z68
      simp only [p1, q1, g1, g2, hn1, o1, o0, ix1, i0, gF, z0w, z7m]
      rfl
    · have hd := zra (t := t) (j := as.length) c2 k1 (fun l h1 h2 => by omega) 0 big (by omega) (zdc (by omega))
      rw [show (as.length : Int) + ((0 : Nat) : Int) - 1 = Int.ofNat (as.length - 1) by simp; omega] at hd
      rw [show (as.length : Int) - 1 = Int.ofNat (as.length - 1) by simp; omega] at hd
      obtain ⟨g1, g2, _⟩ := zqy rfl hd
      have hr : pairR as as.length = (as.length - 1, 0, as.getD (as.length - 1) 0, fop .add .f32 (as.getD 0 0) 1065353216) := by unfold pairR; rw [if_neg (by omega), if_pos rfl]
      rw [hr]
      have e1 : ltI (Int.ofNat (as.length - 1)) 0 = false := ltI_f (by simp)
      have e2 : addI .i64 (Int.ofNat (as.length - 1)) 1 = Int.ofNat as.length := by rw [addI1 (by omega), show as.length - 1 + 1 = as.length by omega]
      have e3 : eqI (Int.ofNat as.length) (Int.ofNat as.length) = true := by simp [eqI]
      have e4 : fcmp .lss .f32 t (as.getD 0 0) = false := by rw [ybm]; exact k1 0 (by omega)
      have e5 : eqI 0 0 = true := rfl
      unfold zrj zr9
      simp only [p2, q2, hn1, g1, g2, e1, e2, e3, e4, e5, o1, o0, ix1, i0, gF, z0w, z7m, zax]
      rw [br_if]
      split <;> rfl
  · refine ⟨j, by omega, ?_, ?_⟩
    · obtain ⟨g1, g2, g3⟩ := zfr rfl k4
      unfold z3b z68
      simp only [p1, q1, g1, g2, g3, z0w, zax]
      by_cases h0 : j = 0
      · subst h0
        have hr : pairR as 0 = (as.length - 1, 0, fop .sub .f32 (as.getD (as.length - 1) 0) 1065353216, as.getD 0 0) := by unfold pairR; rw [if_pos rfl]
        rw [hr, eqN0]
        simp only [hn1, o1, o0, ix1, i0, gF, z0w, zax, decide_eq_true (rfl : (0 : Nat) = 0)]
        rfl
      · have hr : pairR as j = (j - 1, j, as.getD (j - 1) 0, as.getD j 0) := by unfold pairR; rw [if_neg h0, if_neg (by omega)]
        rw [hr, eqN0, decide_eq_false h0, show ltI (Int.ofNat j) 0 = false from ltI_f (by simp), subN1 h0 (by omega), z90 (show j - 1 < as.length by omega), z90 k1, ix1, ix1]
        rfl
    · have hd := zra (t := t) (j := j) c2 k3 (fun l h1 h2 => yd3 hv ht k1 k2 h1 h2) (as.length - j) big (by omega) (zdc (by omega))
      rw [show (j : Int) + ((as.length - j : Nat) : Int) - 1 = Int.ofNat (as.length - 1) by simp; omega] at hd
      obtain ⟨g1, g2, _⟩ := zqy rfl hd
      have e5 : eqI 0 0 = true := rfl
      unfold zrj zr9
      by_cases h0 : j = 0
      · subst h0
        have hr : pairR as 0 = (as.length - 1, 0, fop .sub .f32 (as.getD (as.length - 1) 0) 1065353216, as.getD 0 0) := by unfold pairR; rw [if_pos rfl]
        rw [hr]
        have e1 : ltI (((0 : Nat) : Int) - 1) 0 = true := rfl
        have e4 : fcmp .lss .f32 t (as.getD 0 0) = true := by rw [ybm]; exact k2
        simp only [p2, q2, hn1, g1, g2, e1, e4, e5, o1, o0, ix1, i0, gF, z0w, zax]
        rw [br_if]
        split <;> rfl
      · have hr : pairR as j = (j - 1, j, as.getD (j - 1) 0, as.getD j 0) := by unfold pairR; rw [if_neg h0, if_neg (by omega)]
        rw [hr]
        have e0 : (j : Int) - 1 = Int.ofNat (j - 1) := by simp; omega
        rw [e0] at g2
        have e1 : ltI (Int.ofNat (j - 1)) 0 = false := ltI_f (by simp)
        have e2 : addI .i64 (Int.ofNat (j - 1)) 1 = Int.ofNat j := by rw [addI1 (by omega), show j - 1 + 1 = j by omega]
        have e3 : eqI (Int.ofNat j) (Int.ofNat as.length) = false := by unfold eqI; exact decide_eq_false (by simp; omega)
        have e6 : eqI (Int.ofNat j) 0 = false := by rw [eqN0]; exact decide_eq_false h0
        simp only [p2, q2, hn1, g1, g2, e1, e2, e3, e6, z90 (show j - 1 < as.length by omega), z90 k1, ix1, gF, z0w, z7m]
        rw [br_if]
        split <;> rfl
end Go.Rf
