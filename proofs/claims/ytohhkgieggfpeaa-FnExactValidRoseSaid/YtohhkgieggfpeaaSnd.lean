/-
  The evaluator answers what the model's runs come to: operations.
-/
import Derived.Test.YtohhkgieggfpeaaRel
import Derived.Laws.FloatArith
import Derived.LoopN
import Derived.Laws.Cells
set_option linter.unusedVariables false
namespace Go.Rf
open Go

/-! ### The table of types -/
def zOk : At → Value → Bool
  | .any, v => oneV v
  | .bool b, .bool c => b == c
  | .int k n, .int l m => decide (k = l) && decide (n = m)
  | .flt k x, .float l b => decide (k = l) && decide (x = b) && !nanB l b && decide (b < 2 ^ l.format.width)
  | .cx k x y, .complex l a b => decide (k = l) && decide (x = a) && decide (y = b) && !nanB l a && !nanB l b && decide (a < 2 ^ l.format.width) && decide (b < 2 ^ l.format.width)
  | .nilsl, .slice none 0 0 => true
  | _, _ => false
def zOks : List At → List Value → Bool
  | [], [] => true
  | a :: as, v :: vs => zOk a v && zOks as vs
  | _, _ => false
def fieldsOk : List Field → List (Nat × TypeId) → Bool
  | [], [] => true
  | f :: r, (o, t) :: s => Nat.beq f.offset o && Nat.beq f.type t && fieldsOk r s
  | _, _ => false
def infosOk (P : Program) : List Field → Bool
  | [] => true
  | f :: r => (P.info? f.type).isSome && infosOk P r
def fieldInfos (P : Program) : TypeDesc → Bool
  | .struct fs => infosOk P fs.toList
  | _ => true
def descOk : TypeDesc → Desc → Bool
  | .bool, .bool => true
  | .int k, .int l => decide (k = l)
  | .float k, .flt l => decide (k = l)
  | .complex k, .cx l => decide (k = l)
  | .slice e, .sl f => Nat.beq e f
  | .struct fs, .struct gs => fieldsOk fs.toList gs
  | .pointer e, .ptr f => Nat.beq e f
  | _, .other => true
  | _, _ => false
def aggD : TypeDesc → Bool
  | .struct _ => true
  | .array _ _ => true
  | _ => false
def chkTI (P : Program) (T : Nat) (i : TI) : Bool :=
  match P.info? T, P.underlying T with
  | some ti, some d => Nat.beq ti.size i.size && Nat.beq ti.bytes i.bytes && (match ti.zero with | some z => zOks i.zero z.cells.toList && Nat.beq z.cells.size ti.size | none => false) && descOk d i.desc && (aggD d == i.agg) && fieldInfos P d
  | _, _ => false
def chkTab (P : Program) : List (Nat × TI) → Bool
  | [] => true
  | (T, i) :: r => chkTI P T i && chkTab P r

structure TFact (P : Program) (T : Nat) (i : TI) : Prop where
  info : ∃ ti z, P.info? T = some ti ∧ ti.size = i.size ∧ ti.bytes = i.bytes ∧ ti.zero = some z ∧ zOks i.zero z.cells.toList = true ∧ z.cells.size = i.size
  und : ∃ d, P.underlying T = some d ∧ descOk d i.desc = true ∧ aggD d = i.agg ∧ fieldInfos P d = true

theorem tfact_of {P : Program} {T : Nat} {i : TI} (h : chkTI P T i = true) : TFact P T i := by
  unfold chkTI at h
  split at h
  · rename_i ti d h1 h2
    simp only [Bool.and_eq_true] at h
    obtain ⟨⟨⟨⟨⟨a1, a2⟩, a3⟩, a4⟩, a5⟩, a6⟩ := h
    split at a3
    · rename_i z hz
      simp only [Bool.and_eq_true] at a3
      exact ⟨⟨ti, z, h1, Nat.eq_of_beq_eq_true a1, Nat.eq_of_beq_eq_true a2, hz, a3.1, (Nat.eq_of_beq_eq_true a3.2).trans (Nat.eq_of_beq_eq_true a1)⟩, ⟨d, h2, a4, by simpa using a5, a6⟩⟩
    · cases a3
  · cases h
theorem tab_fact {P : Program} : ∀ {tab : List (Nat × TI)}, chkTab P tab = true → ∀ {T : Nat} {i : TI}, look tab T = some i → TFact P T i
  | [], _, T, i, h => by cases h
  | (U, j) :: r, hc, T, i, h => by
    simp only [chkTab, Bool.and_eq_true] at hc
    simp only [look] at h
    split at h
    · rename_i hb
      cases h
      obtain rfl := Nat.eq_of_beq_eq_true hb
      exact tfact_of hc.1
    · exact tab_fact hc.2 h

/-! ### Worlds that differ by draws -/
structure Same (w w' : World) : Prop where
  heap : w'.heap = w.heap
  os : w'.os = w.os
  tape : w'.tape = w.tape
  output : w'.output = w.output
theorem Same.refl (w : World) : Same w w := ⟨rfl, rfl, rfl, rfl⟩
theorem Same.trans {a b c : World} (h : Same a b) (k : Same b c) : Same a c := ⟨k.heap.trans h.heap, k.os.trans h.os, k.tape.trans h.tape, k.output.trans h.output⟩
theorem Same.drew (w : World) : Same w w.drew := ⟨rfl, rfl, rfl, rfl⟩
theorem Same.cell {w w' : World} (h : Same w w') (a : Addr) : w'.cell? a = w.cell? a := by unfold World.cell?; rw [h.heap]
theorem Same.wr {w w' : World} (h : Same w w') {β : Bm} {H : List Blk} (k : WR β H w) : WR β H w' := by
  refine ⟨fun t b hb => ?_, k.sep⟩
  have := k.blk t b hb
  split
  · rename_i e; rw [e] at this; exact this
  · rename_i B o C e
    rw [e] at this
    exact ⟨fun j a h1 h2 => by rw [h.cell]; exact this.cell j a h1 h2, fun ho => by rw [h.heap]; exact this.own ho, by rw [h.heap]; exact this.lt⟩
theorem Same.fr {M : Nat → Prop} {a w w' : World} (h : Same w w') (k : Fr M a w) : Fr M a w' :=
  ⟨h.os.trans k.os, h.tape.trans k.tape, h.output.trans k.output, by rw [h.heap]; exact k.size, fun i hi hn => by rw [h.heap]; exact k.block i hi hn⟩

/-! ### Runs of the model -/
section
variable {P : Program} {w : World}

theorem lit_wf (k : FloatKind) (b : Nat) : (Lit.float k b).wf = true ↔ wfW k b := by
  cases k
  · have e : FloatKind.f32.format.width = 32 := by decide +kernel
    simp [Lit.wf, wfW, e]
  · have e : FloatKind.f64.format.width = 64 := by decide +kernel
    simp [Lit.wf, wfW, e]

theorem run_floatArith (op : BinOp) (k : FloatKind) (x y : Nat) (ho : isArith op = true) :
    ∃ b w', (Op.floatArith op k x y).run P w = .ok (.float k b) w' ∧ Same w w' ∧ wfW k b ∧ cn k b = fop op k (cn k x) (cn k y) := by
  have hS : ∀ r, floatBits op k x y = some r → (Op.floatArith op k x y).run P w = .ok (.float k r) w := by
    intro r hr
    unfold floatBits at hr
    cases op <;> simp [isArith] at ho <;> simp only at hr <;> simp [Op.floatArith, hr]
  have hN : floatBits op k x y = none → (Op.floatArith op k x y).run P w = ((fun b => Value.float k b) <$> choose (.nanBits k x y)).run P w := by
    intro hr
    unfold floatBits at hr
    cases op <;> simp [isArith] at ho <;> simp only at hr <;> simp [Op.floatArith, hr]
  unfold fop
  rw [floatBits_cn]
  cases e : floatBits op k x y with
  | some r =>
    exact ⟨r, w, hS r e, Same.refl w, (lit_wf k r).1 (floatBits_wf e), by rw [cn_of_not (floatBits_not_nan e)]; rfl⟩
  | none =>
    have hc := nan_cut k (w.tape w.drawn (.nanBits k x y))
    refine ⟨_, w.drew, by rw [hN e]; simp [run_choose, Question.forced]; rfl, Same.drew w, ?_, ?_⟩
    · cases k <;> exact hc.2
    · rw [cn_of_nan]
      · rfl
      · cases k <;> exact hc.1

theorem run_floatCmp (op : BinOp) (k : FloatKind) (x y : Nat) (ho : isCmp op = true) :
    (Op.floatCmp op k x y).run P w = .ok (.bool (fcmp op k (cn k x) (cn k y))) w := by
  rw [fcmp_cn]
  cases op <;> simp [isCmp] at ho <;> rfl

theorem nanB_conv_cut (k : FloatKind) (b t : Nat) : nanB k ((Question.nanConv k b).cut t) = true ∧ (Question.nanConv k b).cut t < 2 ^ k.format.width := by
  have := nan_cut k t
  cases k <;> exact this

theorem run_conv (s d : FloatKind) (b r : Nat) (hb : wfW s b) (h : fcv s d (cn s b) = some r) :
    ∃ b' w', (Conv.floatToFloat s b d).run P w = .ok (.float d b') w' ∧ Same w w' ∧ wfW d b' ∧ cn d b' = r := by
  unfold fcv at h
  rw [nanB_cn] at h
  by_cases hn : nanB s b = true
  · rw [hn] at h
    simp only [if_true] at h
    cases h
    unfold Conv.floatToFloat
    by_cases e : s = d
    · subst e
      rw [if_pos rfl]
      exact ⟨b, w, rfl, Same.refl w, hb, cn_of_nan hn⟩
    · rw [if_neg e]
      obtain ⟨sg, f, hf⟩ := nan_form hn
      have hd : s.decode b = .nan sg f := hf
      rw [hd]
      have hc := nanB_conv_cut d b (w.tape w.drawn (.nanConv d b))
      exact ⟨_, w.drew, by simp [run_choose, Question.forced], Same.drew w, hc.2, cn_of_nan hc.1⟩
  · have hn' : nanB s b = false := by simpa using hn
    rw [hn', cn_of_not hn'] at h
    simp only [Bool.false_eq_true, if_false] at h
    have hw := floatToFloatBits_wf (src := s) (bits := b) (dst := d) ((lit_wf s b).2 hb) h
    have hwd : wfW d r := (lit_wf d r).1 hw
    have hrun : (Conv.floatToFloat s b d).run P w = .ok (.float d r) w ∧ cn d r = r := by
      unfold floatToFloatBits at h
      unfold Conv.floatToFloat
      split at h
      · rename_i e; cases h; subst e; rw [if_pos rfl]; exact ⟨rfl, cn_of_not hn'⟩
      · rename_i ne
        rw [if_neg ne]
        split at h
        · cases h
        · rename_i sg he; cases h; simp only [he]
          exact ⟨rfl, cn_of_not (nanB_write d rfl)⟩
        · rename_i sg m e he
          split at h
          · cases h
          · rename_i ho; cases h; simp only [he]
            exact ⟨by simp [ho], cn_of_not (nanB_write d rfl)⟩
    exact ⟨r, w, hrun.1, Same.refl w, hwd, hrun.2⟩

theorem wf_floatOfInt (k : FloatKind) (n : Int) : wfW k (floatOfInt k n) := by
  exact (lit_wf k _).1 (floatOfInt_wf k n)
theorem cn_floatOfInt (k : FloatKind) (n : Int) : cn k (floatOfInt k n) = floatOfInt k n := cn_of_not (nanB_write k (d := .number (n < 0) n.natAbs 0) rfl)

theorem neg_facts (k : FloatKind) (b : Nat) (hb : wfW k b) : wfW k (Op.negFloat k b) ∧ cn k (Op.negFloat k b) = fneg k (cn k b) := by
  have hx : ∀ b, b < 2 ^ k.format.width → Op.negFloat k b = if b < k.format.signWeight then b + k.format.signWeight else b - k.format.signWeight := by
    intro b hb
    unfold Op.negFloat
    cases k
    · have e1 : FloatKind.f32.format.signWeight = 2 ^ 31 := by decide +kernel
      have e2 : FloatKind.f32.format.width = 32 := by decide +kernel
      have e3 : FloatKind.f32.format.exponentBits + FloatKind.f32.format.fractionBits = 31 := by decide +kernel
      rw [e2] at hb; rw [e1, e3]
      have : b = (BitVec.ofNat 32 b).toNat := by simp; omega
      by_cases hlt : b < 2 ^ 31
      · rw [if_pos hlt]
        apply Nat.eq_of_testBit_eq
        intro i
        rw [Nat.testBit_xor, Nat.testBit_two_pow]
        by_cases hi : 31 = i
        · subst hi
          rw [Nat.testBit_lt_two_pow hlt, show b + 2 ^ 31 = 2 ^ 31 + b from Nat.add_comm .., Nat.testBit_two_pow_add_eq, Nat.testBit_lt_two_pow hlt]; simp
        · simp only [hi, decide_false, Bool.xor_false]
          rcases Nat.lt_or_gt_of_ne hi with h1 | h1
          · rw [Nat.testBit_lt_two_pow (Nat.lt_of_lt_of_le hlt (Nat.pow_le_pow_right (by decide) (Nat.le_of_lt h1)))]
            rw [Nat.testBit_lt_two_pow (Nat.lt_of_lt_of_le (show b + 2 ^ 31 < 2 ^ 32 by omega) (Nat.pow_le_pow_right (by decide) h1))]
          · rw [show b + 2 ^ 31 = 2 ^ 31 + b from Nat.add_comm .., Nat.testBit_two_pow_add_gt h1]
      · rw [if_neg hlt]
        obtain ⟨c, rfl⟩ : ∃ c, b = 2 ^ 31 + c := ⟨b - 2 ^ 31, by omega⟩
        have hc : c < 2 ^ 31 := by omega
        rw [Nat.add_sub_cancel_left]
        apply Nat.eq_of_testBit_eq
        intro i
        rw [Nat.testBit_xor, Nat.testBit_two_pow]
        by_cases hi : 31 = i
        · subst hi
          rw [Nat.testBit_two_pow_add_eq, Nat.testBit_lt_two_pow hc]; simp
        · simp only [hi, decide_false, Bool.xor_false]
          rcases Nat.lt_or_gt_of_ne hi with h1 | h1
          · rw [Nat.testBit_lt_two_pow (Nat.lt_of_lt_of_le hc (Nat.pow_le_pow_right (by decide) (Nat.le_of_lt h1)))]
            rw [Nat.testBit_lt_two_pow (Nat.lt_of_lt_of_le (show 2 ^ 31 + c < 2 ^ 32 by omega) (Nat.pow_le_pow_right (by decide) h1))]
          · rw [Nat.testBit_two_pow_add_gt h1]
    · have e1 : FloatKind.f64.format.signWeight = 2 ^ 63 := by decide +kernel
      have e2 : FloatKind.f64.format.width = 64 := by decide +kernel
      have e3 : FloatKind.f64.format.exponentBits + FloatKind.f64.format.fractionBits = 63 := by decide +kernel
      rw [e2] at hb; rw [e1, e3]
      by_cases hlt : b < 2 ^ 63
      · rw [if_pos hlt]
        apply Nat.eq_of_testBit_eq
        intro i
        rw [Nat.testBit_xor, Nat.testBit_two_pow]
        by_cases hi : 63 = i
        · subst hi
          rw [Nat.testBit_lt_two_pow hlt, show b + 2 ^ 63 = 2 ^ 63 + b from Nat.add_comm .., Nat.testBit_two_pow_add_eq, Nat.testBit_lt_two_pow hlt]; simp
        · simp only [hi, decide_false, Bool.xor_false]
          rcases Nat.lt_or_gt_of_ne hi with h1 | h1
          · rw [Nat.testBit_lt_two_pow (Nat.lt_of_lt_of_le hlt (Nat.pow_le_pow_right (by decide) (Nat.le_of_lt h1)))]
            rw [Nat.testBit_lt_two_pow (Nat.lt_of_lt_of_le (show b + 2 ^ 63 < 2 ^ 64 by omega) (Nat.pow_le_pow_right (by decide) h1))]
          · rw [show b + 2 ^ 63 = 2 ^ 63 + b from Nat.add_comm .., Nat.testBit_two_pow_add_gt h1]
      · rw [if_neg hlt]
        obtain ⟨c, rfl⟩ : ∃ c, b = 2 ^ 63 + c := ⟨b - 2 ^ 63, by omega⟩
        have hc : c < 2 ^ 63 := by omega
        rw [Nat.add_sub_cancel_left]
        apply Nat.eq_of_testBit_eq
        intro i
        rw [Nat.testBit_xor, Nat.testBit_two_pow]
        by_cases hi : 63 = i
        · subst hi
          rw [Nat.testBit_two_pow_add_eq, Nat.testBit_lt_two_pow hc]; simp
        · simp only [hi, decide_false, Bool.xor_false]
          rcases Nat.lt_or_gt_of_ne hi with h1 | h1
          · rw [Nat.testBit_lt_two_pow (Nat.lt_of_lt_of_le hc (Nat.pow_le_pow_right (by decide) (Nat.le_of_lt h1)))]
            rw [Nat.testBit_lt_two_pow (Nat.lt_of_lt_of_le (show 2 ^ 63 + c < 2 ^ 64 by omega) (Nat.pow_le_pow_right (by decide) h1))]
          · rw [Nat.testBit_two_pow_add_gt h1]
  have hS : 2 ^ k.format.width = 2 * k.format.signWeight := by cases k <;> decide +kernel
  have hw : wfW k (Op.negFloat k b) := by
    unfold wfW at *
    rw [hx b hb]
    split <;> omega
  have hnan : nanB k (Op.negFloat k b) = nanB k b := by
    rw [read_nan_iff, read_nan_iff, hx b hb]
    unfold wfW at hb
    have : 0 < k.format.signWeight := Nat.two_pow_pos _
    split
    · rename_i h; rw [Nat.add_mod_right]
    · rename_i h
      rw [Nat.mod_eq_sub_mod (Nat.not_lt.1 h)]
  refine ⟨hw, ?_⟩
  unfold fneg
  rw [nanB_cn]
  by_cases hn : nanB k b = true
  · rw [cn_of_nan (by rw [hnan, hn]), if_pos hn]
  · have hn' : nanB k b = false := by simpa using hn
    rw [cn_of_not (by rw [hnan, hn']), if_neg (by simp [hn']), cn_of_not hn']
end
end Go.Rf
