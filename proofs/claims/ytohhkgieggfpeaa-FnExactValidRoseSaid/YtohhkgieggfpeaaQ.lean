/-
  The evaluator answers what the model's runs come to: operations that only look.
-/
import Derived.Test.YtohhkgieggfpeaaSnd
set_option linter.unusedVariables false
namespace Go.Rf
open Go

theorem blt_lt {a b : Nat} (h : Nat.blt a b = true) : a < b := Nat.le_of_ble_eq_true h
theorem ble_le {a b : Nat} (h : Nat.ble a b = true) : a ≤ b := Nat.le_of_ble_eq_true h
theorem beq_eq {a b : Nat} (h : Nat.beq a b = true) : a = b := Nat.eq_of_beq_eq_true h
theorem add_none (B x j : Nat) : (⟨B, x, none⟩ : Addr).add j = ⟨B, x + j, none⟩ := by
  unfold Addr.add; split <;> simp_all

theorem look_put {tm : List (Nat × AV)} (d : Nat) (v : AV) (t : Nat) : get ((d, v) :: tm) t = if d = t then v else get tm t := by
  unfold get
  simp only [look]
  split
  · rename_i h1
    split at h1
    · rename_i hb
      cases h1
      rw [if_pos (beq_eq hb)]
    · rename_i hb
      rw [if_neg (fun e => by subst e; simp [Nat.beq_refl] at hb)]
      rw [h1]
  · rename_i h1
    split at h1
    · cases h1
    · rename_i hb
      rw [if_neg (fun e => by subst e; simp [Nat.beq_refl] at hb)]
      rw [h1]

section
variable {β : Bm} {H : List Blk} {w : World} {P : Program} {Γ : Ctx}

theorem avOf_rel (v : Value) : RV β H (avOf v) v := by
  unfold avOf
  split
  · rfl
  · rfl
  · split
    · rename_i h; exact ⟨_, rfl, blt_lt h, rfl⟩
    · trivial
  · split
    · rename_i h1 h2; exact ⟨_, _, rfl, blt_lt h1, blt_lt h2, rfl, rfl⟩
    · trivial
  · exact ⟨_, rfl⟩
  · trivial

/-- The slots of a frame are as the evaluator has them. -/
def RTm (β : Bm) (H : List Blk) (tm : List (Nat × AV)) (tmps : Array Value) : Prop := ∀ t, RV β H (get tm t) (tmps.getD t undef)

theorem opnd_rel {tm : List (Nat × AV)} {a : Act} (h : RTm β H tm a.tmps) (x : Operand) : RV β H (opnd tm x) (a.eval x) := by
  cases x with
  | tmp t => exact h t
  | const v => exact avOf_rel v
  | global g => trivial
  | func f => exact ⟨#[], rfl, .nil⟩
theorem opnds_rel {tm : List (Nat × AV)} {a : Act} (h : RTm β H tm a.tmps) : ∀ xs : List Operand, All2 (RV β H) (opnds tm xs) (xs.map a.eval)
  | [] => .nil
  | x :: r => .cons (opnd_rel h x) (opnds_rel h r)

/-! ### Small readings of the relation -/
theorem R0.of_RAt {a : At} {v : Value} (h : RAt β H a v) (hf : ∀ f c, a ≠ .fn f c) : R0 β H a v := by
  rcases (RAt_iff β H a v).1 h with ⟨f, caps, rfl, _⟩ | h
  · exact absurd rfl (hf f caps)
  · exact h

theorem getN_rel {b : Blk} {B o C : Nat} (hb : BRel β H w b B o C) : ∀ (n off : Nat) (cs : List At), getN b.body off n = some cs → off + n ≤ b.body.size →
    ∃ vs : List Value, vs.length = n ∧ cs.length = n ∧ (∀ j v, vs[j]? = some v → w.cell? ⟨B, o + off + j, none⟩ = some v) ∧ All2 (RAt β H) cs vs := by
  intro n
  induction n with
  | zero => intro off cs h _; simp only [getN] at h; cases h; exact ⟨[], rfl, rfl, by simp, .nil⟩
  | succ n ih =>
    intro off cs h hle
    simp only [getN] at h
    split at h
    · rename_i a ha
      split at h
      · rename_i r hr
        cases h
        obtain ⟨v, hv, hR⟩ := hb.cell off a (by omega) ha
        obtain ⟨vs, h1, h2, h3, h4⟩ := ih (off + 1) r hr (by omega)
        refine ⟨v :: vs, by simp [h1], by simp [h2], fun j u hu => ?_, .cons hR h4⟩
        cases j with
        | zero => simp at hu; subst hu; simpa using hv
        | succ j =>
          have := h3 j u (by simpa using hu)
          rw [show o + off + (j + 1) = o + (off + 1) + j by omega]
          exact this
      · cases h
    · cases h

theorem run_isAgg {T : Nat} {i : TI} (h : TFact P T i) : (isAgg T).run P w = .ok i.agg w := by
  obtain ⟨d, h1, h2, h3, _⟩ := h.und
  have hu : (underlying T).run P w = .ok d w := by simp [underlying, h1]
  unfold isAgg
  simp only [Sem.run_bind, hu, Result.andThen_ok]
  rw [← h3]
  cases d <;> rfl
theorem run_sizeOf' {T : Nat} {i : TI} (h : TFact P T i) : (sizeOf T).run P w = .ok i.size w := by
  obtain ⟨ti, z, h1, h2, _⟩ := h.info
  simp [sizeOf, typeInfo, h1, h2]
theorem run_und {T : Nat} {d : TypeDesc} (h : P.underlying T = some d) : (underlying T).run P w = .ok d w := by simp [underlying, h]

/-- A variable is loaded. -/
theorem run_load_ptr {T : Nat} {i : TI} (hT : TFact P T i) (hw : WR β H w) {t off ext : Nat} {v : Value} (hv : RAt β H (.ptr t off ext) v) {b : Blk} (hb : nth H t = some b)
    (hle : i.size ≤ ext) (h1 : i.agg = false → i.size = 1) {x : TV} (hx : match i.agg with | true => ∃ cs, getN b.body off i.size = some cs ∧ x = .agg cs | false => ∃ a, b.body.get off = some a ∧ x = .one a) :
    ∃ u, (Instr.loadAt T v).run P w = .ok u w ∧ RT β H x u := by
  obtain ⟨B, o, C, h2, h3, h4, rfl⟩ := hv
  have hbk := hw.blk t b hb
  rw [h2] at hbk
  have hsz : szH H t = b.body.size := by simp [szH, hb]
  rw [hsz] at h4
  have hbr : BRel β H w b B o C := hbk
  have ha := run_isAgg (w := w) hT
  have hs := run_sizeOf' (w := w) hT
  cases hag : i.agg with
  | true =>
    rw [hag] at hx ha
    obtain ⟨cs, hcs, rfl⟩ := hx
    obtain ⟨vs, k1, k2, k3, k4⟩ := getN_rel hbr _ _ _ hcs (by omega)
    have hl := run_loadCells_list (P := P) (w := w) ⟨B, o + off, none⟩ vs (fun j u hu => by rw [add_none]; exact k3 j u hu)
    rw [k1] at hl
    refine ⟨.agg vs.toArray, ?_, vs.toArray, rfl, by simpa using k4⟩
    simp only [Instr.loadAt, Instr.sureAddr, loadVar, Sem.run_bind, Sem.run_pure, Result.andThen_ok, ha, hs, hl, Sem.run_ite, if_true]
  | false =>
    rw [hag] at hx ha
    have hs1 := h1 hag
    obtain ⟨a, hga, rfl⟩ := hx
    obtain ⟨u, hu, hR⟩ := hbr.cell off a (by omega) hga
    refine ⟨u, ?_, hR⟩
    simp [Instr.loadAt, Instr.sureAddr, loadVar, ha, hu]

/-! ### Arithmetic -/
/-- What the evaluator hands on: a value that is there. -/
def Gives {R : Type} (β : Bm) (H : List Blk) (P : Program) (w : World) (m : Sem Value) (k : AV → Option R) (r : R) : Prop :=
  ∃ v u w', m.run P w = .ok u w' ∧ Same w w' ∧ RV β H v u ∧ k v = some r

theorem Gives.here {R : Type} {m : Sem Value} {k : AV → Option R} {r : R} {v : AV} {u : Value} (h : m.run P w = .ok u w) (hv : RV β H v u) (hk : k v = some r) : Gives β H P w m k r :=
  ⟨v, u, w, h, Same.refl w, hv, hk⟩

theorem Gives.int {R : Type} {m : Sem Value} {k : AV → Option R} {r : R} {j : IntKind} {n : Int} (h : m.run P w = .ok (.int j n) w) (hk : k (A1 (.int j n)) = some r) : Gives β H P w m k r := .here h (v := A1 (.int j n)) rfl hk
theorem Gives.bool {R : Type} {m : Sem Value} {k : AV → Option R} {r : R} {b : Bool} (h : m.run P w = .ok (.bool b) w) (hk : k (A1 (.bool b)) = some r) : Gives β H P w m k r := .here h (v := A1 (.bool b)) rfl hk
theorem Gives.flt {R : Type} {m : Sem Value} {k : AV → Option R} {r : R} {j : FloatKind} {b : Nat} {w' : World} (h : m.run P w = .ok (.float j b) w') (hs : Same w w') (hb : wfW j b) (hk : k (A1 (.flt j (cn j b))) = some r) : Gives β H P w m k r :=
  ⟨A1 (.flt j (cn j b)), _, w', h, hs, ⟨b, rfl, hb, rfl⟩, hk⟩
theorem Gives.cx {R : Type} {m : Sem Value} {k : AV → Option R} {r : R} {j : FloatKind} {b c : Nat} {w' : World} (h : m.run P w = .ok (.complex j b c) w') (hs : Same w w') (hb : wfW j b) (hc : wfW j c) (hk : k (A1 (.cx j (cn j b) (cn j c))) = some r) : Gives β H P w m k r :=
  ⟨A1 (.cx j (cn j b) (cn j c)), _, w', h, hs, ⟨b, c, rfl, hb, hc, rfl, rfl⟩, hk⟩

theorem cmpI_run {op : BinOp} {a b : Int} {c : Bool} (h : cmpI op a b = some c) : (Op.intCmp op a b).run P w = .ok (.bool c) w := by
  cases op <;> simp only [cmpI] at h <;> cases h
  all_goals (simp only [Op.intCmp, Sem.run_pure]; try rfl)

theorem evBin_int {R : Type} {d : Desc} {op : BinOp} {T : TypeId} {X Y : Operand} {j j' : IntKind} {a b : Int} {k : AV → Option R} {r : R}
    (h : evBin d op (.v (.one (.int j a))) (.v (.one (.int j' b))) k = some r) :
    Gives β H P w (do eqGuard op T X Y (.int j a) (.int j' b); binOp op T (.int j a) (.int j' b)) k r := by
  have hg : (eqGuard op T X Y (.int j a) (.int j' b)).run P w = .ok () w := by cases op <;> simp [eqGuard]
  simp only [evBin] at h
  split at h
  · rename_i sh hsh
    obtain ⟨hb, h⟩ := chk_nat h
    refine .int (n := shI sh j a b) ?_ h
    simp only [Sem.run_bind, hg, Result.andThen_ok]
    cases op <;> first | (cases hsh; done) | skip
    · cases hsh
      simp only [binOp, Op.shift, if_neg (Int.not_lt.2 hb)]
      rfl
    · cases hsh
      simp only [binOp, Op.shift, if_neg (Int.not_lt.2 hb)]
      rfl
  · rename_i hsh
    split at h
    · cases h
    · rename_i hj
      have hj : j = j' := by simpa using hj
      subst hj
      split at h
      · exact .int (by simp [hg, binOp, Op.intArith]) h
      · exact .int (by simp [hg, binOp, Op.intArith]) h
      · exact .int (by simp [hg, binOp, Op.intArith]) h
      · by_cases hb : b ≠ 0
        · rw [chk_pos hb] at h
          exact .int (by simp [hg, binOp, Op.intDiv, hb]) h
        · rw [chk_neg hb] at h; cases h
      · by_cases hb : b ≠ 0
        · rw [chk_pos hb] at h
          exact .int (by simp [hg, binOp, Op.intDiv, hb]) h
        · rw [chk_neg hb] at h; cases h
      · split at h
        · rename_i hbit
          refine .int (n := bitI op j a b) ?_ h
          simp only [Sem.run_bind, hg, Result.andThen_ok]
          cases op <;> first | (cases hbit; done) | skip
          all_goals simp [binOp, Op.intBits, bitI]
        · split at h
          · rename_i c hc
            refine .bool ?_ h
            simp only [Sem.run_bind, hg, Result.andThen_ok]
            rw [← cmpI_run (P := P) (w := w) hc]
            cases op <;> simp [cmpI] at hc <;> simp [binOp]
          · cases h

theorem evBin_flt {R : Type} {d : Desc} {op : BinOp} {T : TypeId} {X Y : Operand} {j j' : FloatKind} {a b : Nat} (ha : wfW j a) (hb : wfW j' b) {k : AV → Option R} {r : R}
    (h : evBin d op (.v (.one (.flt j (cn j a)))) (.v (.one (.flt j' (cn j' b)))) k = some r) :
    Gives β H P w (do eqGuard op T X Y (.float j a) (.float j' b); binOp op T (.float j a) (.float j' b)) k r := by
  have hg : (eqGuard op T X Y (.float j a) (.float j' b)).run P w = .ok () w := by cases op <;> simp [eqGuard]
  simp only [evBin] at h
  split at h
  · cases h
  · rename_i hj
    have hj : j = j' := by simpa using hj
    subst hj
    split at h
    · rename_i ho
      obtain ⟨c, w', h1, h2, h3, h4⟩ := run_floatArith (P := P) (w := w) op j a b ho
      refine .flt ?_ h2 h3 (by rw [h4]; exact h)
      simp only [Sem.run_bind, hg, Result.andThen_ok]
      rw [← h1]
      cases op <;> simp [isArith] at ho <;> simp [binOp]
    · split at h
      · rename_i ho
        refine .bool ?_ h
        simp only [Sem.run_bind, hg, Result.andThen_ok]
        rw [← run_floatCmp (P := P) op j a b ho]
        cases op <;> simp [isCmp] at ho <;> simp [binOp]
      · cases h

theorem evBin_cx {R : Type} {d : Desc} {op : BinOp} {T : TypeId} {X Y : Operand} {j j' : FloatKind} {a b c e : Nat} (ha : wfW j a) (hb : wfW j b) (hc : wfW j' c) (he : wfW j' e) {k : AV → Option R} {r : R}
    (h : evBin d op (.v (.one (.cx j (cn j a) (cn j b)))) (.v (.one (.cx j' (cn j' c) (cn j' e)))) k = some r) :
    Gives β H P w (do eqGuard op T X Y (.complex j a b) (.complex j' c e); binOp op T (.complex j a b) (.complex j' c e)) k r := by
  have hg : (eqGuard op T X Y (.complex j a b) (.complex j' c e)).run P w = .ok () w := by cases op <;> simp [eqGuard]
  simp only [evBin] at h
  split at h
  · cases h
  · rename_i hj
    have hj : j = j' := by simpa using hj
    subst hj
    have two : ∀ (o : BinOp), isArith o = true → ∃ x y w', (do pure (Value.complex j (← Op.Complex.arith o j a c) (← Op.Complex.arith o j b e)) : Sem Value).run P w = .ok (.complex j x y) w' ∧ Same w w' ∧ wfW j x ∧ wfW j y ∧ cn j x = fop o j (cn j a) (cn j c) ∧ cn j y = fop o j (cn j b) (cn j e) := by
      intro o ho
      obtain ⟨x, w1, h1, h2, h3, h4⟩ := run_floatArith (P := P) (w := w) o j a c ho
      obtain ⟨y, w2, g1, g2, g3, g4⟩ := run_floatArith (P := P) (w := w1) o j b e ho
      exact ⟨x, y, w2, by simp [Op.Complex.arith, h1, g1], h2.trans g2, h3, g3, h4, g4⟩
    have hcmp : (Op.Complex.cmp .eql j a c).run P w = .ok (fcmp .eql j (cn j a) (cn j c)) w ∧ (Op.Complex.cmp .eql j b e).run P w = .ok (fcmp .eql j (cn j b) (cn j e)) w := by
      constructor <;> simp [Op.Complex.cmp, run_floatCmp _ _ _ _ (show isCmp .eql = true from rfl), asBool]
    split at h
    · obtain ⟨x, y, w', h1, h2, h3, h4, h5, h6⟩ := two .add rfl
      refine .cx ?_ h2 h3 h4 (by rw [h5, h6]; exact h)
      simp only [Sem.run_bind, hg, Result.andThen_ok]
      rw [← h1]; simp [binOp, Op.complexOp]
    · obtain ⟨x, y, w', h1, h2, h3, h4, h5, h6⟩ := two .sub rfl
      refine .cx ?_ h2 h3 h4 (by rw [h5, h6]; exact h)
      simp only [Sem.run_bind, hg, Result.andThen_ok]
      rw [← h1]; simp [binOp, Op.complexOp]
    · refine .bool ?_ h
      simp only [Sem.run_bind, hg, Result.andThen_ok]
      simp [binOp, Op.complexOp, hcmp.1, hcmp.2]
    · refine .bool ?_ h
      simp only [Sem.run_bind, hg, Result.andThen_ok]
      simp [binOp, Op.complexOp, hcmp.1, hcmp.2]
    · cases h

theorem evBin_sound {R : Type} {op : BinOp} {T : TypeId} {i : TI} (hT : TFact P T i) {X Y : Operand} {x y : AV} {a b : Value} (hx : RV β H x a) (hy : RV β H y b) {k : AV → Option R} {r : R}
    (h : evBin i.desc op x y k = some r) : Gives β H P w (do eqGuard op T X Y a b; binOp op T a b) k r := by
  unfold evBin at h
  split at h
  · cases hx; cases hy
    exact evBin_int (d := i.desc) h
  · obtain ⟨x, rfl, h1, rfl⟩ := hx
    obtain ⟨y, rfl, h2, rfl⟩ := hy
    exact evBin_flt (d := i.desc) h1 h2 h
  · obtain ⟨x, x', rfl, h1, h2, rfl, rfl⟩ := hx
    obtain ⟨y, y', rfl, h3, h4, rfl, rfl⟩ := hy
    exact evBin_cx (d := i.desc) h1 h2 h3 h4 h
  · rename_i p q
    cases hx; cases hy
    obtain ⟨d, hu, hd, _⟩ := hT.und
    have run : ∀ (op' : BinOp), (i.desc matches .bool) = true → (Op.equal T (.bool p) (.bool q)).run P w = .ok (p == q) w := by
      intro _ hb
      cases hdd : i.desc <;> rw [hdd] at hb <;> simp at hb
      rw [hdd] at hd
      cases d <;> simp [descOk] at hd
      show (Op.equalIn (9999 + 1) T (.bool p) (.bool q)).run P w = _
      rw [Op.equalIn]
      simp [run_und hu]
    split at h
    · rename_i hdd
      have hr := run .eql (by rw [hdd])
      exact .bool (by simp [eqGuard, binOp, hr]) h
    · rename_i hdd
      have hr := run .eql (by rw [hdd])
      exact .bool (by simp [eqGuard, binOp, hr]) h
    · cases h
  · cases h

theorem evUn_sound {R : Type} {op : UnOp} {x : AV} {a : Value} (hx : RV β H x a) {k : AV → Option R} {r : R} (h : evUn op x k = some r) : Gives β H P w (Op.unary op a) k r := by
  unfold evUn at h
  split at h
  · cases hx; exact .bool rfl h
  · cases hx; exact .int (by simp [Op.unary, Op.intArith, negI]) h
  · obtain ⟨b, rfl, h1, rfl⟩ := hx
    obtain ⟨h2, h3⟩ := neg_facts _ b h1
    exact .flt rfl (Same.refl w) h2 (by rw [h3]; exact h)
  · obtain ⟨b, c, rfl, h1, h1', rfl, rfl⟩ := hx
    obtain ⟨h2, h3⟩ := neg_facts _ b h1
    obtain ⟨h2', h3'⟩ := neg_facts _ c h1'
    exact .cx rfl (Same.refl w) h2 h2' (by rw [h3, h3']; exact h)
  · cases h

set_option maxHeartbeats 1000000 in
theorem evConv_sound {R : Type} {S T : TypeId} {si i : TI} (hS : TFact P S si) (hT : TFact P T i) {x : AV} {a : Value} (hx : RV β H x a) {k : AV → Option R} {r : R}
    (h : evConv i.desc x k = some r) : Gives β H P w (convert S T a) k r := by
  obtain ⟨sd, su, _⟩ := hS.und
  obtain ⟨d, hu, hd, _⟩ := hT.und
  have hs := run_und (w := w) su
  have ht := run_und (w := w) hu
  unfold evConv at h
  split at h
  · rename_i j _ n hdd
    rw [hdd] at hd
    cases hx
    cases d <;> simp [descOk] at hd
    have hd := hd.symm
    subst hd
    refine .int ?_ h
    cases sd <;> simp [convert, hs, ht, Conv.intToInt]
  · rename_i j _ n hdd
    rw [hdd] at hd
    cases hx
    cases d <;> simp [descOk] at hd
    have hd := hd.symm
    subst hd
    refine .flt (b := floatOfInt j n) ?_ (Same.refl w) (wf_floatOfInt j n) (by rw [cn_floatOfInt]; exact h)
    cases sd <;> simp [convert, hs, ht, Conv.intToFloat, floatOfInt]
  · rename_i b hdd
    rw [hdd] at hd
    obtain ⟨b, rfl, hb, rfl⟩ := hx
    cases d <;> simp [descOk] at hd
    subst hd
    obtain ⟨r', hr⟩ := fcv_up (cn .f32 b)
    obtain ⟨c, w', h1, h2, h3, h4⟩ := run_conv (P := P) (w := w) _ _ _ _ hb hr
    refine .flt ?_ h2 h3 (by rw [h4]; simpa [fcvV, hr] using h)
    rw [← h1]
    cases sd <;> simp [convert, hs, ht]
  · rename_i b hdd
    rw [hdd] at hd
    obtain ⟨b, rfl, hb, rfl⟩ := hx
    cases d <;> simp [descOk] at hd
    subst hd
    obtain ⟨hr, h⟩ := grd_inv h
    obtain ⟨r', hr⟩ := Option.isSome_iff_exists.1 hr
    obtain ⟨c, w', h1, h2, h3, h4⟩ := run_conv (P := P) (w := w) _ _ _ _ hb hr
    refine .flt ?_ h2 h3 (by rw [h4]; simpa [fcvV, hr] using h)
    rw [← h1]
    cases sd <;> simp [convert, hs, ht]
  · rename_i b hdd
    rw [hdd] at hd
    obtain ⟨b, rfl, hb, rfl⟩ := hx
    cases d <;> simp [descOk] at hd
    subst hd
    refine .flt (b := b) ?_ (Same.refl w) hb h
    have hc : (Conv.floatToFloat .f32 b .f32).run P w = .ok (.float .f32 b) w := by unfold Conv.floatToFloat; rw [if_pos rfl]; rfl
    rw [← hc]
    cases sd <;> simp [convert, hs, ht]
  · rename_i b hdd
    rw [hdd] at hd
    obtain ⟨b, rfl, hb, rfl⟩ := hx
    cases d <;> simp [descOk] at hd
    subst hd
    refine .flt (b := b) ?_ (Same.refl w) hb h
    have hc : (Conv.floatToFloat .f64 b .f64).run P w = .ok (.float .f64 b) w := by unfold Conv.floatToFloat; rw [if_pos rfl]; rfl
    rw [← hc]
    cases sd <;> simp [convert, hs, ht]
  · rename_i j s b hdd
    rw [hdd] at hd
    obtain ⟨b, rfl, hb, rfl⟩ := hx
    cases d <;> simp [descOk] at hd
    have hd := hd.symm
    subst hd
    obtain ⟨hr, h⟩ := grd_inv h
    unfold f2iB at hr
    rw [nanB_cn] at hr
    simp only [Bool.and_eq_true, Bool.not_eq_true'] at hr
    obtain ⟨hn, hr⟩ := hr
    rw [cn_of_not hn] at h hr
    obtain ⟨n, hr⟩ := Option.isSome_iff_exists.1 hr
    refine .int ?_ (by simpa [f2iV, hr] using h)
    exact run_convert_float_int w S T _ _ b n (by rw [su]; rfl) hu hr
  · cases h
end
end Go.Rf
